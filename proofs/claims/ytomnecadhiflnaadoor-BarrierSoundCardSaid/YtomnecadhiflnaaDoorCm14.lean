/- The contract of slices.Sorted over the values of a map of ours. -/
import Derived.Test.YtomnecadhiflnaaDoorCm13
namespace Go.Proofs.YtomnecadhiflnaaDoor.Br
open Go Go.RowKit Go.Maps Go.Proofs.YtomnecadhiflnaaDoor.Eng Go.Proofs.YtomnecadhiflnaaDoor.Cm
set_option linter.unusedVariables false
set_option linter.unusedSimpArgs false
def keysV : List Int → List (Int × Int) → List Int
  | _, [] => []
  | seen, p :: r => bif seen.any (fun x => x == p.1) then keysV seen r else p.1 :: keysV (p.1 :: seen) r
def look : List (Int × Int) → Int → Int
  | [], _ => 0
  | p :: r, x => bif p.1 == x then p.2 else look r x
def insI (x : Int) : List Int → List Int
  | [] => [x]
  | y :: r => bif decide (x ≤ y) then x :: y :: r else y :: insI x r
def isort : List Int → List Int
  | [] => []
  | x :: r => insI x (isort r)
/-- The values behind a list of updates, sorted. -/
def svals (d : List (Int × Int)) : List Int := isort ((keysV [] d).map (look d))
theorem mem_keysV (x : Int) : ∀ (d : List (Int × Int)) (seen : List Int), x ∈ keysV seen d ↔ x ∉ seen ∧ ∃ p ∈ d, p.1 = x
  | [], seen => by simp [keysV]
  | p :: r, seen => by
    unfold keysV
    cases h : seen.any (fun x => x == p.1) with
    | true =>
      simp only [cond_true]
      rw [mem_keysV x r seen]
      obtain ⟨y, hy, he⟩ := List.any_eq_true.1 h
      have hyp : p.1 ∈ seen := by
        have he : y = p.1 := by simpa using he
        rw [← he]; exact hy
      constructor
      · rintro ⟨h1, q, hq, he2⟩; exact ⟨h1, q, List.mem_cons_of_mem _ hq, he2⟩
      · rintro ⟨h1, q, hq, he2⟩
        rcases List.mem_cons.1 hq with hqp | hq
        · rw [hqp] at he2; rw [he2] at hyp; exact absurd hyp h1
        · exact ⟨h1, q, hq, he2⟩
    | false =>
      have hn : p.1 ∉ seen := fun hm => by
        have := List.any_eq_false.1 h _ hm
        simp at this
      simp only [cond_false, List.mem_cons]
      rw [mem_keysV x r (p.1 :: seen)]
      constructor
      · rintro (rfl | ⟨h1, q, hq, he⟩)
        · exact ⟨hn, p, .inl rfl, rfl⟩
        · exact ⟨fun hm => h1 (List.mem_cons_of_mem _ hm), q, .inr hq, he⟩
      · rintro ⟨h1, q, hq, he⟩
        by_cases hx : x = p.1
        · exact .inl hx
        · rcases hq with rfl | hq
          · exact absurd he.symm hx
          · exact .inr ⟨fun hm => by rcases List.mem_cons.1 hm with h2 | h2 <;> contradiction, q, hq, he⟩
theorem nodup_keysV : ∀ (d : List (Int × Int)) (seen : List Int), (keysV seen d).Nodup
  | [], seen => by simp [keysV]
  | p :: r, seen => by
    unfold keysV
    cases h : seen.any (fun x => x == p.1) with
    | true => exact nodup_keysV r seen
    | false =>
      simp only [cond_false]
      refine List.nodup_cons.2 ⟨fun hm => ?_, nodup_keysV r _⟩
      exact ((mem_keysV _ r _).1 hm).1 (by simp)
theorem isMap_dataH : ∀ d, IsMap (dataH d)
  | [] => isMap_empty
  | p :: r => (isMap_dataH r).put _ _
theorem lit_ne {a b : Int} (h : a ≠ b) : (Lit.int .i64 a) ≠ Lit.int .i64 b := fun e => h (by injection e)
theorem has_dataH (x : Int) : ∀ d, Maps.has (dataH d) (.int .i64 x) = true ↔ ∃ p ∈ d, p.1 = x
  | [] => by simp [dataH, Maps.has]
  | p :: r => by
    unfold dataH
    by_cases h : x = p.1
    · subst h
      rw [has_put_same (k := .int .i64 p.1) (isMap_dataH r) trivial]
      simp
    · rw [has_put_other (lit_ne h), has_dataH x r]
      constructor
      · rintro ⟨q, hq, he⟩; exact ⟨q, List.mem_cons_of_mem _ hq, he⟩
      · rintro ⟨q, hq, he⟩
        rcases List.mem_cons.1 hq with rfl | hq
        · exact absurd he.symm h
        · exact ⟨q, hq, he⟩
theorem valC_dataH (x : Int) : ∀ d, (∃ p ∈ d, p.1 = x) → valC (dataH d) x = look d x
  | [], h => by obtain ⟨p, hp, _⟩ := h; cases hp
  | p :: r, h => by
    unfold valC look dataH
    by_cases hx : x = p.1
    · subst hx
      rw [atKey_put_same (k := .int .i64 p.1) (isMap_dataH r) trivial]; simp
    · rw [atKey_put_other (lit_ne hx)]
      have : (p.1 == x) = false := by simp; exact fun e => hx e.symm
      rw [this]
      refine valC_dataH x r ?_
      obtain ⟨q, hq, he⟩ := h
      rcases List.mem_cons.1 hq with rfl | hq
      · exact absurd he.symm hx
      · exact ⟨q, hq, he⟩
theorem insI_perm (x : Int) : ∀ l, (insI x l).Perm (x :: l)
  | [] => List.Perm.refl _
  | y :: r => by
    unfold insI
    cases decide (x ≤ y) with
    | true => exact List.Perm.refl _
    | false => exact ((insI_perm x r).cons y).trans (List.Perm.swap x y r)
theorem isort_perm : ∀ l, (isort l).Perm l
  | [] => List.Perm.refl _
  | x :: r => (insI_perm x (isort r)).trans ((isort_perm r).cons x)
theorem insI_sorted (x : Int) : ∀ l : List Int, l.Pairwise (· ≤ ·) → (insI x l).Pairwise (· ≤ ·)
  | [], _ => by simp [insI]
  | y :: r, h => by
    unfold insI
    have h1 := List.pairwise_cons.1 h
    by_cases hxy : x ≤ y
    · rw [decide_eq_true hxy]
      refine List.pairwise_cons.2 ⟨fun z hz => ?_, h⟩
      rcases List.mem_cons.1 hz with rfl | hz
      · exact hxy
      · exact Int.le_trans hxy (h1.1 z hz)
    · rw [decide_eq_false hxy]
      refine List.pairwise_cons.2 ⟨fun z hz => ?_, insI_sorted x r h1.2⟩
      rcases List.mem_cons.1 ((insI_perm x r).mem_iff.1 hz) with rfl | hz
      · omega
      · exact h1.1 z hz
theorem isort_sorted : ∀ l, (isort l).Pairwise (· ≤ ·)
  | [] => by simp [isort]
  | x :: r => insI_sorted x _ (isort_sorted r)
theorem sorted_unique {l m : List Int} (hp : l.Perm m) (hl : l.Pairwise (· ≤ ·)) (hm : m.Pairwise (· ≤ ·)) : l = m :=
  List.Perm.eq_of_pairwise (le := (· ≤ ·)) (fun a b _ _ h1 h2 => Int.le_antisymm h1 h2) hl hm hp
theorem mergeSort_isort (l : List Int) : l.mergeSort (fun x y => decide (x ≤ y)) = isort l := by
  refine sorted_unique ((List.mergeSort_perm l _).trans (isort_perm l).symm) ?_ (isort_sorted l)
  have := List.pairwise_mergeSort (le := fun x y : Int => decide (x ≤ y)) (fun a b c h1 h2 => by simp only [decide_eq_true_eq] at *; exact Int.le_trans h1 h2) (fun a b => by simp only [Bool.or_eq_true, decide_eq_true_eq]; exact Int.le_total a b) l
  exact this.imp (fun h => by simpa using h)
theorem svals_of {d : List (Int × Int)} {ks : List Int} (hnd : ks.Nodup) (hm : ∀ x, x ∈ ks ↔ Maps.has (dataH d) (.int .i64 x) = true) : (ks.map (valC (dataH d))).mergeSort (fun x y => decide (x ≤ y)) = svals d := by
  have hk : ks.Perm (keysV [] d) := (List.perm_ext_iff_of_nodup hnd (nodup_keysV d [])).2 fun x => by rw [hm, has_dataH, mem_keysV]; simp
  rw [mergeSort_isort]
  unfold svals
  refine sorted_unique ((isort_perm _).trans (List.Perm.trans ?_ (isort_perm _).symm)) (isort_sorted _) (isort_sorted _)
  have e : ks.map (valC (dataH d)) = ks.map (look d) := List.map_congr_left fun x hx => valC_dataH x d ((has_dataH x d).1 ((hm x).1 hx))
  rw [e]
  exact hk.map _
def gSrt : EntF := fun O w0 args M k => match args with
  | [.v (.c (.clo f [(b, o)]))] => (match M[b]? with
    | some (.mk t [.mpv m]) => (match M[m]? with
      | some (.ab Q) => (bif Nat.beq f 47 && (Nat.beq o 0 && Nat.beq t 62) then Q.P = MapH Tryd.prog 3 3 Q.d ∧ In (Q.d.length : Int) 1000000 ∧ k (.v (.c (.lst M.length))) (M ++ [.lst 3 1 (svals Q.d).length (ints (svals Q.d))]) else False)
      | _ => False)
    | _ => False)
  | _ => False
theorem e29 (O : Nat → Prop) (w0 : World) : Entry Tryd.prog O w0 29 (gSrt O w0) :=
  Entry.row (g := gSrt) (fun O w0 args M k hg β w hI => by
    unfold gSrt at hg
    split at hg
    case h_2 => exact hg.elim
    rename_i f b o
    split at hg
    case h_2 => exact hg.elim
    rename_i t m hb
    split at hg
    case h_2 => exact hg.elim
    rename_i Q hm
    cases hc : (Nat.beq f 47 && (Nat.beq o 0 && Nat.beq t 62)) with
    | false => rw [hc] at hg; exact hg.elim
    | true =>
    rw [hc] at hg
    simp only [Bool.and_eq_true] at hc
    have h1 := Nat.eq_of_beq_eq_true hc.1
    have h2 := Nat.eq_of_beq_eq_true hc.2.1
    have h3 := Nat.eq_of_beq_eq_true hc.2.2
    subst h1 h2 h3
    obtain ⟨hQ, ⟨_, hn⟩, hk⟩ := hg
    have hown : w.ownsMap Tryd.prog 3 (plainElem Tryd.prog 3) (β m) Q.d.length (dataH Q.d) := by
      have := (hI.ab m Q hm).is
      rw [hQ] at this
      exact this
    have hsz := hown.size_le
    have hcell : w.cell? ⟨β b, 0, none⟩ = some (.map (some (β m))) := hI.cell hb (off := 0) (x := .mpv m) rfl
    refine ⟨3, 1, _, _, hk, ?_⟩
    have hmx : maxLen = 9223372036854775807 := rfl
    refine (sorted29 (β b) (β m) Q.d.length (dataH Q.d) w (hI.lt hb trivial) hcell hown (by omega) (by omega)).mono ?_
    rintro e w' ⟨v, ks, rfl, hnd, hmem, hrow, hb2⟩
    rw [svals_of hnd hmem] at hrow
    have hlen : ks.length = (svals Q.d).length := by
      rw [← svals_of hnd hmem, List.length_mergeSort, List.length_map]
    rw [hlen] at hrow
    refine ⟨v, _, rfl, hrow, fun j hj => ⟨rfl, rfl, rfl, fun m2 c hc2 => ?_⟩, hb2⟩
    cases m2 with
    | zero =>
      have hc2 : SC.val (.int .i64 ((svals Q.d).getD j 0)) = c := by simpa [ints] using hc2
      subst hc2
      rw [Nat.mul_one, Nat.add_zero, List.getElem?_map, List.getElem?_eq_getElem hj, List.getD_eq_getElem?_getD, List.getElem?_eq_getElem hj]
      rfl
    | succ m2 => simp [ints] at hc2) O w0
def Γ13 : TabF := addF Γ12 29 gSrt
theorem Γ13_ok : TSF Tryd.prog Γ13 := Γ12_ok.add e29
end Go.Proofs.YtomnecadhiflnaaDoor.Br
