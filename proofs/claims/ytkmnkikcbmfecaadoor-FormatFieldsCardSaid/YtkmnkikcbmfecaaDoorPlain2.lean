/- The plain laws of the package format: what the printed functions compute, and that the laws answer true. -/
import Derived.Test.YtkmnkikcbmfecaaDoorPlain
import Derived.Lib.CountLaws
import Derived.Lib.SplitLaws
import Derived.Lib.Join
namespace Go.Proofs.YtkmnkikcbmfecaaDoor.Pure
open Go Go.RowKit Go.Proofs.YtkmnkikcbmfecaaDoor.PF Go.Proofs.YtkmnkikcbmfecaaDoorW.PrintWords Go.Proofs.YtkmnkikcbmfecaaDoorW.PrintLast Go.Proofs.YtkmnkikcbmfecaaDoorW.PrintMore
/-! Splitting at one byte. -/
def spl (c : UInt8) : List UInt8 → List UInt8 → List (List UInt8)
  | cur, [] => [cur]
  | cur, b :: l => if b = c then cur :: spl c [] l else spl c (cur ++ [b]) l
def mkB (l : List UInt8) : ByteArray := ⟨l.toArray⟩
theorem spl_pos (c : UInt8) (l : List UInt8) : ∀ cur, spl c cur l = if pos c l < l.length then (cur ++ l.take (pos c l)) :: spl c [] (l.drop (pos c l + 1)) else [cur ++ l] := by
  induction l with
  | nil => intro cur; simp [spl]
  | cons b l ih =>
    intro cur
    by_cases h : b = c
    · subst h
      have e : pos b (b :: l) = 0 := by simp [pos]
      rw [e]
      simp [spl]
    · have e : pos c (b :: l) = pos c l + 1 := by simp [pos, h]
      rw [e, List.length_cons]
      simp only [spl]
      rw [if_neg h, ih]
      by_cases hp : pos c l < l.length
      · rw [if_pos hp, if_pos (Nat.succ_lt_succ hp)]
        simp
      · rw [if_neg hp, if_neg (fun q => hp (Nat.lt_of_succ_lt_succ q))]
        simp
theorem spl_join (c : UInt8) (l : List UInt8) : ∀ cur, Lib.join (spl c cur l) [c] = cur ++ l := by
  induction l with
  | nil => intro cur; simp [spl, Lib.join_one]
  | cons b l ih =>
    intro cur
    simp only [spl]
    by_cases h : b = c
    · subst h
      rw [if_pos rfl]
      have : ∃ x r, spl b [] l = x :: r := by
        rw [spl_pos]; split
        · exact ⟨_, _, rfl⟩
        · exact ⟨_, _, rfl⟩
      obtain ⟨x, r, e⟩ := this
      have h2 := ih []
      rw [e] at h2 ⊢
      rw [Lib.join_cons] at h2 ⊢
      unfold Lib.joinTail at h2 ⊢
      simp only [List.map_cons, List.flatten_cons]
      simp only [List.append_assoc]
      rw [h2]
      simp
    · rw [if_neg h, ih]; simp
theorem spl_len (c : UInt8) (l : List UInt8) : ∀ cur, (spl c cur l).length ≤ l.length + 1 := by
  induction l with
  | nil => intro cur; simp [spl]
  | cons b l ih =>
    intro cur
    simp only [spl]
    split
    · have := ih []
      simp only [List.length_cons]; omega
    · have := ih (cur ++ [b])
      simp only [List.length_cons]; omega
theorem splitB_spl (c : UInt8) : ∀ (k : Nat) (s : ByteArray), Lib.countB s (⟨#[c]⟩ : ByteArray) = k → Lib.splitB (⟨#[c]⟩ : ByteArray) 0 k s = (spl c [] s.data.toList).map mkB := by
  have hix : ∀ s : ByteArray, Lib.indexB s (⟨#[c]⟩ : ByteArray) = if pos c s.data.toList < s.data.toList.length then (pos c s.data.toList : Int) else -1 := fun s => index_pos c s.data.toList
  intro k
  induction k with
  | zero =>
    intro s h
    rw [Lib.splitB_zero, spl_pos]
    by_cases hp : pos c s.data.toList < s.data.toList.length
    · have := Lib.countB_hit s (⟨#[c]⟩ : ByteArray) (pos c s.data.toList) (Nat.le_refl 1) (by rw [hix, if_pos hp])
      omega
    · rw [if_neg hp, List.map_singleton, List.nil_append]
      unfold mkB
      rw [mk_data]
  | succ k ih =>
    intro s h
    by_cases hp : pos c s.data.toList < s.data.toList.length
    · have hi : Lib.indexB s (⟨#[c]⟩ : ByteArray) = ((pos c s.data.toList : Nat) : Int) := by rw [hix, if_pos hp]
      have hc := Lib.countB_hit s (⟨#[c]⟩ : ByteArray) (pos c s.data.toList) (Nat.le_refl 1) hi
      rw [Lib.splitB_hit _ _ _ _ _ hi, ih _ (by omega), spl_pos c s.data.toList, if_pos hp, List.map_cons, List.nil_append]
      rw [show (⟨#[c]⟩ : ByteArray).size = 1 from rfl, Lib.extract_to_end]
      congr 1
      apply same_data
      rw [Lib.extract_from_zero]
      rfl
    · have := Lib.countB_miss s (⟨#[c]⟩ : ByteArray) (by rw [hix, if_neg hp])
      omega
theorem split_tells (c : UInt8) (s : ByteArray) (hs : s.data.toList.length < 4294967281) : strings_Split.f s (⟨#[c]⟩ : ByteArray) = some ((spl c [] s.data.toList).map mkB) := by
  unfold strings_Split.f
  have h1 : 1 ≤ (⟨#[c]⟩ : ByteArray).size := Nat.le_refl 1
  rw [if_pos ⟨by rw [size_len]; exact hs, h1, Lib.splitB_all (⟨#[c]⟩ : ByteArray) h1 0 _ s rfl⟩, splitB_spl c _ s rfl]
theorem rd_at (l : List (List UInt8)) (i : Nat) (h : i < l.length) : rdOf ByteArray.empty (l.map mkB) (i : Int) = mkB l[i] := by
  unfold rdOf
  rw [Int.toNat_natCast, List.getD_eq_getElem?_getD, List.getElem?_map, List.getElem?_eq_getElem h]; rfl
theorem refsplit_loop (c : UInt8) (s : ByteArray) (hs : s.data.toList.length ≤ 1000000000) (d : Nat) : ∀ (i k : Nat) (done : List (List UInt8)) (cur : List UInt8), i + d = s.data.toList.length → d < k → done.length ≤ i → cur.length ≤ i →
    frustumref06_split.l0 k s (c.toNat : Int) ((done ++ [cur]).map mkB) i = some ((done ++ spl c cur (s.data.toList.drop i)).map mkB) := by
  induction d with
  | zero =>
    intro i k done cur h hk h1 h2
    obtain ⟨k, rfl⟩ : ∃ m, k = m + 1 := ⟨k - 1, by omega⟩
    simp only [frustumref06_split.l0]
    rw [size_len, if_neg (by omega), List.drop_eq_nil_of_le (by omega)]
    rfl
  | succ d ih =>
    intro i k done cur h hk h1 h2
    obtain ⟨k, rfl⟩ : ∃ m, k = m + 1 := ⟨k - 1, by omega⟩
    have hi : i < s.data.toList.length := by omega
    simp only [frustumref06_split.l0]
    rw [size_len, if_pos (by omega), if_pos (by omega), bt_nat s i hi, drop_at _ i hi]
    simp only [spl]
    rw [wrap_in (n := (i : Int) + 1) (by omega) (by omega), show (i : Int) + 1 = ((i + 1 : Nat) : Int) by omega]
    by_cases hb : s.data.toList[i] = c
    · rw [if_pos (by rw [hb]), if_pos hb, if_pos (by simp; omega)]
      have := ih (i + 1) k (done ++ [cur]) [] (by omega) (by omega) (by simp; omega) (by simp)
      rw [show (⟨#[]⟩ : ByteArray) = mkB [] from rfl, show (List.map mkB (done ++ [cur]) ++ [mkB []]) = List.map mkB (done ++ [cur] ++ [[]]) by simp]
      rw [this, List.append_assoc]
      rfl
    · rw [if_neg (fun e => hb (byte_eq (by omega))), if_neg hb]
      have hl : ((List.map mkB (done ++ [cur])).length : Int) = (done.length : Int) + 1 := by simp
      rw [hl, wrap_in (n := (done.length : Int) + 1 - 1) (by omega) (by omega), show (done.length : Int) + 1 - 1 = (done.length : Int) by omega]
      have hrd : rdOf ByteArray.empty (List.map mkB (done ++ [cur])) (done.length : Int) = mkB cur := by
        rw [rd_at _ _ (by simp)]; simp
      have hx : s.extract i (i + 1) = mkB [s.data.toList[i]] := by
        apply same_data
        rw [Lib.extract_data, drop_at _ i hi, show i + 1 - i = 1 by omega]; rfl
      rw [Int.toNat_natCast, Int.toNat_natCast, Int.toNat_natCast, hx, hrd, if_pos (by omega), if_pos (by omega), if_pos (by omega), if_pos (by omega)]
      have ha : mkB cur ++ mkB [s.data.toList[i]] = mkB (cur ++ [s.data.toList[i]]) := mk_append _ _
      rw [ha, show (mkB cur).size = cur.length from mk_size cur, show (mkB [s.data.toList[i]]).size = 1 from rfl, if_pos (by omega)]
      have hset : (List.map mkB (done ++ [cur])).set done.length (mkB (cur ++ [s.data.toList[i]])) = List.map mkB (done ++ [cur ++ [s.data.toList[i]]]) := by
        simp
      rw [hset]
      exact ih (i + 1) k done (cur ++ [s.data.toList[i]]) (by omega) (by omega) (by omega) (by simp; omega)
theorem refsplit_tells (c : UInt8) (s : ByteArray) (hs : s.data.toList.length ≤ 1000000000) (k : Nat) (hk : s.data.toList.length < k) : frustumref06_split.f k s (c.toNat : Int) = some ((spl c [] s.data.toList).map mkB) := by
  have := refsplit_loop c s hs s.data.toList.length 0 k [] [] (by omega) hk (by simp) (by simp)
  rw [List.drop_zero] at this
  exact this
/-! Lines. -/
def fl (c : UInt8) (L : List (List UInt8)) : List UInt8 := (L.map (· ++ [c])).flatten
theorem fl_cons (c : UInt8) (x : List UInt8) (L : List (List UInt8)) : fl c (x :: L) = x ++ [c] ++ fl c L := by unfold fl; simp
theorem spl_fl (c : UInt8) (l : List UInt8) : ∀ cur, fl c (spl c cur l) = cur ++ l ++ [c] := by
  induction l with
  | nil => intro cur; simp [spl, fl]
  | cons b l ih =>
    intro cur
    simp only [spl]
    by_cases h : b = c
    · subst h
      rw [if_pos rfl, fl_cons, ih]; simp
    · rw [if_neg h, ih]; simp
def linesM (l : List UInt8) : List (List UInt8) × Int := if l = [] then ([], 0) else if l.getLast? = some 10 then (spl 10 [] l.dropLast, 0) else ([], 3)
theorem mkB_nil : (⟨#[]⟩ : ByteArray) = mkB [] := rfl
theorem size_mkB (l : List UInt8) : (mkB l).size = l.length := mk_size l
theorem data_mkB (l : List UInt8) : (mkB l).data.toList = l := rfl
theorem app_mkB (a b : List UInt8) : mkB a ++ mkB b = mkB (a ++ b) := mk_append a b
theorem toList_mkB (l : List UInt8) : (mkB l).toList = l := list_of (mkB l)
theorem eq_mkB (s : ByteArray) : s = mkB s.data.toList := (mk_data s).symm
theorem ex_pre (pre : List UInt8) (b : UInt8) : (mkB (pre ++ [b])).extract 0 pre.length = mkB pre := by
  apply same_data; rw [Lib.extract_from_zero, data_mkB, data_mkB, List.take_left]
theorem ex_last (pre : List UInt8) (b : UInt8) : ((mkB (pre ++ [b])).extract pre.length (pre.length + 1)).toList = [b] := by
  rw [list_of, Lib.extract_data, data_mkB, List.drop_left, Nat.add_sub_cancel_left]; rfl
theorem cutSuffix_tells (pre : List UInt8) (b : UInt8) (h : pre.length ≤ 1000000000) : strings_CutSuffix.f (mkB (pre ++ [b])) (⟨#[10]⟩ : ByteArray) = some (if b = 10 then (mkB pre, true) else (mkB (pre ++ [b]), false)) := by
  unfold strings_CutSuffix.f stringslite_CutSuffix.f stringslite_HasSuffix.f
  have hs : (mkB (pre ++ [b])).size = pre.length + 1 := by rw [size_mkB]; simp
  have h1 : (⟨#[10]⟩ : ByteArray).size = 1 := rfl
  have hw : wrap64 (((pre.length + 1 : Nat) : Int) - ((1 : Nat) : Int)) = ((pre.length : Nat) : Int) := by rw [wrap_in (by omega) (by omega)]; omega
  have hb : ([b] == (⟨#[10]⟩ : ByteArray).toList) = decide (b = 10) := by
    rw [list_of, show (⟨#[10]⟩ : ByteArray).data.toList = [10] from rfl]
    by_cases e : b = 10
    · subst e; rfl
    · rw [decide_eq_false e]; exact beq_eq_false_iff_ne.mpr (fun q => e (List.cons.inj q).1)
  rw [hs, h1, hw, if_pos (by omega), if_pos (by omega), if_pos (by omega), Int.toNat_natCast, ex_last, hb]
  by_cases e : b = 10
  · rw [decide_eq_true e, if_pos e, Option.bind_some, if_pos rfl, if_pos (by omega), if_pos (by omega), ex_pre]; rfl
  · rw [decide_eq_false e, if_neg e, Option.bind_some, if_neg (by decide)]; rfl
theorem splitLines_tells (l : List UInt8) (h : l.length ≤ 16384) : format_SplitLines.f (mkB l) = some ((linesM l).1.map mkB, (linesM l).2) := by
  unfold format_SplitLines.f linesM
  rw [size_mkB, if_neg (by omega), toList_mkB]
  by_cases h0 : l = []
  · rw [if_pos h0, if_pos h0]; rfl
  · rw [if_neg h0, if_neg h0]
    obtain ⟨pre, b, rfl⟩ : ∃ pre b, l = pre ++ [b] := ⟨l.dropLast, l.getLast h0, (List.dropLast_concat_getLast h0).symm⟩
    rw [List.length_append, List.length_singleton] at h
    refine bind_of (cutSuffix_tells pre b (by omega)) ?_
    rw [List.getLast?_append, List.dropLast_concat]
    have hgl : ([b].getLast?.or pre.getLast? = some 10) = (b = 10) := by simp
    by_cases e : b = 10
    · rw [if_pos e, if_pos rfl, if_pos (hgl.symm ▸ e)]
      exact bind_of (split_tells 10 (mkB pre) (by rw [data_mkB]; omega)) rfl
    · rw [if_neg e, if_neg (show ¬ (false = true) by decide), if_neg (hgl.symm ▸ e)]; rfl
theorem refSplitLines_tells (l : List UInt8) (h : l.length ≤ 16384) (k : Nat) (hk : l.length < k) : frustumref06_SplitLines.f k (mkB l) = some ((linesM l).1.map mkB, (linesM l).2) := by
  unfold frustumref06_SplitLines.f linesM
  rw [size_mkB, if_neg (by omega), toList_mkB]
  by_cases h0 : l = []
  · rw [if_pos h0, if_pos h0]; rfl
  · rw [if_neg h0, if_neg h0]
    obtain ⟨pre, b, rfl⟩ : ∃ pre b, l = pre ++ [b] := ⟨l.dropLast, l.getLast h0, (List.dropLast_concat_getLast h0).symm⟩
    rw [List.length_append, List.length_singleton] at h hk
    have hw : wrap64 (((pre ++ [b]).length : Int) - 1) = ((pre.length : Nat) : Int) := by rw [List.length_append, List.length_singleton, wrap_in (by omega) (by omega)]; omega
    have hb : bt (mkB (pre ++ [b])) ((pre.length : Nat) : Int) = (b.toNat : Int) := by
      rw [bt_nat _ _ (by rw [data_mkB]; simp)]
      simp [data_mkB]
    have hl : (pre ++ [b]).length = pre.length + 1 := by simp
    rw [hw, hb, hl, if_pos (by omega), if_pos (by omega), Int.toNat_natCast, ex_pre]
    rw [List.getLast?_append, List.dropLast_concat]
    have hgl : ([b].getLast?.or pre.getLast? = some 10) = (b = 10) := by simp
    by_cases e : b = 10
    · rw [if_pos (by rw [e]; rfl), if_pos (by omega), if_pos (hgl.symm ▸ e)]
      exact bind_of (refsplit_tells 10 (mkB pre) (by rw [data_mkB]; omega) k (by rw [data_mkB]; omega)) rfl
    · rw [if_neg (fun q => e (byte_eq (b := 10) (by show b.toNat = 10; omega))), if_neg (hgl.symm ▸ e)]; rfl
theorem same_loop (L : List (List UInt8)) (hL : L.length ≤ 1000000000) (d : Nat) : ∀ (i k : Nat), i + d = L.length → d < k → frustumlaw06_same.l0 k (L.map mkB) (L.map mkB) i = some true := by
  induction d with
  | zero =>
    intro i k h hk
    obtain ⟨k, rfl⟩ : ∃ m, k = m + 1 := ⟨k - 1, by omega⟩
    simp only [frustumlaw06_same.l0]
    rw [List.length_map, if_neg (by omega)]
  | succ d ih =>
    intro i k h hk
    obtain ⟨k, rfl⟩ : ∃ m, k = m + 1 := ⟨k - 1, by omega⟩
    simp only [frustumlaw06_same.l0]
    rw [List.length_map, if_pos (by omega), if_pos (by omega), if_pos (by omega), if_pos trivial, wrap_in (by omega) (by omega)]
    exact ih (i + 1) k (by omega) (by omega)
theorem same_tells (L : List (List UInt8)) (hL : L.length ≤ 1000000000) (k : Nat) (hk : L.length < k) : frustumlaw06_same.f k (L.map mkB) (L.map mkB) = some true := by
  unfold frustumlaw06_same.f
  rw [if_pos rfl]
  exact same_loop L hL L.length 0 k (by omega) hk
theorem lines_loop (l : List UInt8) (L : List (List UInt8)) (e : Int) (hL : L.length ≤ 1000000) (d : Nat) : ∀ (i k : Nat) (acc : List UInt8), i + d = L.length → d + L.length + 100 < k → acc.length + (fl 10 (L.drop i)).length ≤ 1000000 →
    (e = 0 → acc ++ fl 10 (L.drop i) = l) → frustumlaw06_FormatLines.l0 k (mkB l) (L.map mkB) e (L.map mkB) e (mkB acc) i = some true := by
  induction d with
  | zero =>
    intro i k acc h hk ha he
    obtain ⟨k, rfl⟩ : ∃ m, k = m + 1 := ⟨k - 1, by omega⟩
    simp only [frustumlaw06_FormatLines.l0]
    rw [List.length_map, if_neg (by omega)]
    refine bind_of (same_tells L (by omega) k (by omega)) ?_
    rw [List.drop_eq_nil_of_le (by omega)] at he
    rw [if_pos rfl, if_pos trivial, toList_mkB, toList_mkB]
    by_cases e0 : e = 0
    · have := he e0
      rw [show fl 10 [] = [] from rfl, List.append_nil] at this
      rw [if_pos e0, if_pos this, example_tells k (by omega)]; rfl
    · rw [if_neg e0, example_tells k (by omega)]; rfl
  | succ d ih =>
    intro i k acc h hk ha he
    obtain ⟨k, rfl⟩ : ∃ m, k = m + 1 := ⟨k - 1, by omega⟩
    have hi : i < L.length := by omega
    rw [List.drop_eq_getElem_cons hi, fl_cons] at ha he
    simp only [List.length_append, List.length_singleton] at ha
    simp only [frustumlaw06_FormatLines.l0]
    rw [List.length_map, if_pos (by omega), if_pos (by omega), rd_at L i hi, app_mkB, size_mkB, size_mkB, size_mkB, List.length_append, if_pos (by omega), if_pos (by omega)]
    rw [show (⟨#[10]⟩ : ByteArray) = mkB [10] from rfl, app_mkB, wrap_in (by omega) (by omega)]
    refine ih (i + 1) k (acc ++ L[i] ++ [10]) (by omega) (by omega) (by simp only [List.length_append, List.length_singleton]; omega) (fun e0 => ?_)
    have := he e0
    simpa only [List.append_assoc] using this
theorem linesM_len (l : List UInt8) : (linesM l).1.length ≤ l.length + 1 := by
  unfold linesM
  split
  · simp
  · split
    · have := spl_len 10 l.dropLast []
      rw [List.length_dropLast] at this
      show (spl 10 [] l.dropLast).length ≤ _
      omega
    · simp
theorem linesM_back (l : List UInt8) : ((linesM l).2 = 0 → fl 10 (linesM l).1 = l) ∧ (fl 10 (linesM l).1).length ≤ l.length := by
  unfold linesM
  split
  · rename_i h; subst h; exact ⟨fun _ => rfl, Nat.le_refl _⟩
  · split
    · rename_i h0 h
      have e : fl 10 (spl 10 [] l.dropLast) = l := by
        rw [spl_fl, List.nil_append]
        have hb : l.getLast h0 = 10 := by rw [List.getLast?_eq_some_getLast h0] at h; exact Option.some.inj h
        rw [← hb]; exact List.dropLast_concat_getLast h0
      refine ⟨fun _ => e, ?_⟩
      show (fl 10 (spl 10 [] l.dropLast)).length ≤ _
      rw [e]; exact Nat.le_refl _
    · exact ⟨fun h => absurd h (show ¬ (3 : Int) = 0 by decide), Nat.zero_le _⟩
theorem linesLaw (s : ByteArray) : ∃ k, frustumlaw06_FormatLines.f k s = some true := by
  refine ⟨100000, ?_⟩
  have hex : (frustumlaw06_example.f 100000).bind (fun t => some t) = some true := by rw [example_tells 100000 (by decide)]; rfl
  rw [eq_mkB s]
  generalize s.data.toList = l
  unfold frustumlaw06_FormatLines.f
  by_cases h : l.length ≤ 16384
  · refine bind_of (splitLines_tells l h) ?_
    rw [size_mkB]
    by_cases h2 : l.length > 2000
    · rw [if_pos (by omega), if_pos (by omega)]; exact hex
    · rw [if_neg (by omega)]
      refine bind_of (refSplitLines_tells l h 100000 (by omega)) ?_
      have h1 := linesM_len l
      obtain ⟨b1, b2⟩ := linesM_back l
      exact lines_loop l (linesM l).1 (linesM l).2 (by omega) (linesM l).1.length 0 100000 [] (by omega) (by omega) (by rw [List.drop_zero]; simp only [List.length_nil]; omega) (fun e => by rw [List.drop_zero, List.nil_append]; exact b1 e)
  · have hb : format_SplitLines.f (mkB l) = some ([], 5) := by
      unfold format_SplitLines.f
      rw [size_mkB, if_pos (by omega)]
    refine bind_of hb ?_
    rw [size_mkB, if_pos (by omega), if_neg (by omega), if_pos rfl, if_pos (by rfl)]
    exact hex
/-! Fields. -/
def okc (b : UInt8) : Bool := decide (33 ≤ b.toNat) && decide (b.toNat ≤ 126)
def fldOk (x : List UInt8) : Bool := x != [] && x.all okc
def cost (L : List (List UInt8)) : Nat := (L.map (fun x => x.length + 2)).sum
theorem cost_cons (x : List UInt8) (L : List (List UInt8)) : cost (x :: L) = x.length + 2 + cost L := by unfold cost; simp
theorem cost_fl (c : UInt8) (L : List (List UInt8)) : cost L = (fl c L).length + L.length := by
  induction L with
  | nil => rfl
  | cons x L ih => rw [cost_cons, fl_cons, ih]; simp only [List.length_append, List.length_cons, List.length_nil]; omega
theorem okc_of {b : UInt8} (h : okc b = true) : ¬ (b.toNat : Int) < 33 ∧ ¬ (b.toNat : Int) > 126 := by
  unfold okc at h; rw [Bool.and_eq_true, decide_eq_true_eq, decide_eq_true_eq] at h; omega
theorem okc_not {b : UInt8} (h : okc b = false) : (b.toNat : Int) < 33 ∨ (¬ (b.toNat : Int) < 33 ∧ (b.toNat : Int) > 126) := by
  unfold okc at h
  by_cases h1 : 33 ≤ b.toNat
  · rw [decide_eq_true h1, Bool.true_and, decide_eq_false_iff_not] at h; omega
  · omega
theorem fields_inner (M : List ByteArray) (n : Int) (i : Int) (x : List UInt8) (hx : x.length ≤ 1000000000) (r : Option (List ByteArray × Int)) (K : Nat) (H : ∀ k, K < k → format_Fields.l0 k M M n (wrap64 (i + 1)) = r) (d : Nat) :
    ∀ (j k : Nat), j + d = x.length → K + d + 1 < k → format_Fields.l1 k M (mkB x) j M n i = if (x.drop j).all okc = true then r else some ([], 3) := by
  induction d with
  | zero =>
    intro j k h hk
    obtain ⟨k, rfl⟩ : ∃ m, k = m + 1 := ⟨k - 1, by omega⟩
    simp only [format_Fields.l1]
    rw [size_mkB, if_neg (by omega), List.drop_eq_nil_of_le (by omega), H k (by omega)]; rfl
  | succ d ih =>
    intro j k h hk
    obtain ⟨k, rfl⟩ : ∃ m, k = m + 1 := ⟨k - 1, by omega⟩
    have hj : j < x.length := by omega
    have hb : bt (mkB x) (j : Int) = ((x[j]).toNat : Int) := bt_nat (mkB x) j hj
    simp only [format_Fields.l1]
    rw [size_mkB, if_pos (by omega), if_pos (by omega), hb, drop_at x j hj, List.all_cons]
    cases hc : okc x[j] with
    | false =>
      rw [Bool.false_and, if_neg (show ¬ (false = true) by decide)]
      rcases okc_not hc with h1 | ⟨h1, h2⟩
      · rw [if_pos h1]
      · rw [if_neg h1, if_pos h2]
    | true =>
      obtain ⟨h1, h2⟩ := okc_of hc
      rw [if_neg h1, if_neg h2, Bool.true_and, wrap_in (by omega) (by omega)]
      exact ih (j + 1) k (by omega) (by omega)
theorem fields_loop (L : List (List UInt8)) (hL : L.length ≤ 1000000000) (hx : ∀ x ∈ L, x.length ≤ 1000000000) (d : Nat) : ∀ (i k : Nat), i + d = L.length → cost (L.drop i) < k →
    format_Fields.l0 k (L.map mkB) (L.map mkB) (L.length : Int) i = some (if (L.drop i).all fldOk = true then (L.map mkB, 0) else ([], 3)) := by
  induction d with
  | zero =>
    intro i k h hk
    obtain ⟨k, rfl⟩ : ∃ m, k = m + 1 := ⟨k - 1, by omega⟩
    simp only [format_Fields.l0]
    rw [if_neg (by omega), List.drop_eq_nil_of_le (by omega)]; rfl
  | succ d ih =>
    intro i k h hk
    obtain ⟨k, rfl⟩ : ∃ m, k = m + 1 := ⟨k - 1, by omega⟩
    have hi : i < L.length := by omega
    rw [List.drop_eq_getElem_cons hi, cost_cons] at hk
    rw [List.drop_eq_getElem_cons hi, List.all_cons]
    simp only [format_Fields.l0]
    rw [List.length_map, if_pos (by omega), if_pos (by omega), if_pos (by omega), rd_at L i hi, toList_mkB]
    by_cases h0 : L[i] = []
    · rw [if_pos h0, h0]; rfl
    · rw [if_neg h0]
      have hin := fields_inner (L.map mkB) (L.length : Int) (i : Int) L[i] (hx _ (List.getElem_mem hi)) (some (if (L.drop (i + 1)).all fldOk = true then (L.map mkB, 0) else ([], 3))) (cost (L.drop (i + 1)))
        (fun k hk => by rw [wrap_in (by omega) (by omega)]; exact ih (i + 1) k (by omega) hk) L[i].length 0 k (by omega) (by omega)
      rw [List.drop_zero] at hin
      refine hin.trans ?_
      have hf : fldOk L[i] = L[i].all okc := by unfold fldOk; rw [bne_iff_ne.mpr h0, Bool.true_and]
      rw [hf]
      cases L[i].all okc with
      | true => rw [if_pos rfl, Bool.true_and]
      | false => rfl
def fieldsM (l : List UInt8) : List (List UInt8) × Int := if l = [] then ([], 0) else if (spl 32 [] l).all fldOk = true then (spl 32 [] l, 0) else ([], 3)
theorem spl_mem_len (c : UInt8) (l : List UInt8) : ∀ x ∈ spl c [] l, x.length ≤ l.length + 1 := by
  intro x hx
  have h1 : cost (spl c [] l) = (fl c (spl c [] l)).length + (spl c [] l).length := cost_fl c _
  have h2 : (fl c (spl c [] l)).length = l.length + 1 := by rw [spl_fl]; simp
  have h3 : ∀ (L : List (List UInt8)), x ∈ L → x.length + 1 ≤ (fl c L).length := by
    intro L
    induction L with
    | nil => intro h; cases h
    | cons y L ih =>
      intro h
      rw [fl_cons]
      simp only [List.length_append, List.length_singleton]
      rcases List.mem_cons.mp h with e | e
      · subst e; omega
      · have := ih e; omega
  have := h3 _ hx
  omega
theorem spl_cost (c : UInt8) (l : List UInt8) : cost (spl c [] l) ≤ 2 * l.length + 2 := by
  have h1 : cost (spl c [] l) = (fl c (spl c [] l)).length + (spl c [] l).length := cost_fl c _
  have h2 : (fl c (spl c [] l)).length = l.length + 1 := by rw [spl_fl]; simp
  have h3 := spl_len c l []
  omega
theorem fields_tells (l : List UInt8) (h : l.length ≤ 100000000) (k : Nat) (hk : 2 * l.length + 2 < k) : format_Fields.f k (mkB l) = some ((fieldsM l).1.map mkB, (fieldsM l).2) := by
  unfold format_Fields.f fieldsM
  rw [toList_mkB]
  by_cases h0 : l = []
  · rw [if_pos h0, if_pos h0]; rfl
  · rw [if_neg h0, if_neg h0]
    refine bind_of (split_tells 32 (mkB l) (by rw [data_mkB]; omega)) ?_
    rw [data_mkB, List.length_map]
    have hl := spl_len 32 l []
    have hc := spl_cost 32 l
    have := fields_loop (spl 32 [] l) (by omega) (fun x hx => by have := spl_mem_len 32 l x hx; omega) (spl 32 [] l).length 0 k (by omega) (by rw [List.drop_zero]; omega)
    rw [List.drop_zero] at this
    refine this.trans ?_
    split <;> rfl
theorem rfields_inner (L : List (List UInt8)) (i : Nat) (hi : i < L.length) (hL : L.length ≤ 1000000000) (hx : L[i].length ≤ 1000000000) (r : Option (List ByteArray × Int)) (K : Nat) (H : ∀ k, K < k → frustumref06_Fields.l0 k (L.map mkB) ((i + 1 : Nat) : Int) = r) (d : Nat) :
    ∀ (j k : Nat), j + d = L[i].length → K + d + 1 < k → frustumref06_Fields.l1 k (L.map mkB) i j = if (L[i].drop j).all okc = true then r else some ([], 3) := by
  induction d with
  | zero =>
    intro j k h hk
    obtain ⟨k, rfl⟩ : ∃ m, k = m + 1 := ⟨k - 1, by omega⟩
    simp only [frustumref06_Fields.l1]
    rw [List.length_map, rd_at L i hi, size_mkB, if_pos (by omega), if_pos (by omega), if_neg (by omega), List.drop_eq_nil_of_le (by omega), wrap_in (by omega) (by omega)]
    exact (H k (by omega)).trans rfl
  | succ d ih =>
    intro j k h hk
    obtain ⟨k, rfl⟩ : ∃ m, k = m + 1 := ⟨k - 1, by omega⟩
    have hj : j < L[i].length := by omega
    have hb : bt (mkB L[i]) (j : Int) = ((L[i][j]).toNat : Int) := bt_nat (mkB L[i]) j hj
    simp only [frustumref06_Fields.l1]
    rw [List.length_map, rd_at L i hi, size_mkB, if_pos (by omega), if_pos (by omega), if_pos (by omega), if_pos (by omega), hb, drop_at L[i] j hj, List.all_cons]
    cases hc : okc L[i][j] with
    | false =>
      rw [Bool.false_and, if_neg (show ¬ (false = true) by decide)]
      rcases okc_not hc with h1 | ⟨h1, h2⟩
      · rw [if_pos h1]
      · rw [if_neg h1, if_pos h2]
    | true =>
      obtain ⟨h1, h2⟩ := okc_of hc
      rw [if_neg h1, if_neg h2, Bool.true_and, wrap_in (by omega) (by omega)]
      exact ih (j + 1) k (by omega) (by omega)
theorem rfields_loop (L : List (List UInt8)) (hL : L.length ≤ 1000000000) (hx : ∀ x ∈ L, x.length ≤ 1000000000) (d : Nat) : ∀ (i k : Nat), i + d = L.length → cost (L.drop i) < k →
    frustumref06_Fields.l0 k (L.map mkB) i = some (if (L.drop i).all fldOk = true then (L.map mkB, 0) else ([], 3)) := by
  induction d with
  | zero =>
    intro i k h hk
    obtain ⟨k, rfl⟩ : ∃ m, k = m + 1 := ⟨k - 1, by omega⟩
    simp only [frustumref06_Fields.l0]
    rw [List.length_map, if_neg (by omega), List.drop_eq_nil_of_le (by omega)]; rfl
  | succ d ih =>
    intro i k h hk
    obtain ⟨k, rfl⟩ : ∃ m, k = m + 1 := ⟨k - 1, by omega⟩
    have hi : i < L.length := by omega
    rw [List.drop_eq_getElem_cons hi, cost_cons] at hk
    rw [List.drop_eq_getElem_cons hi, List.all_cons]
    simp only [frustumref06_Fields.l0]
    rw [List.length_map, if_pos (by omega), if_pos (by omega), rd_at L i hi, toList_mkB]
    by_cases h0 : L[i] = []
    · rw [if_pos h0, h0]; rfl
    · rw [if_neg h0]
      have hin := rfields_inner L i hi hL (hx _ (List.getElem_mem hi)) (some (if (L.drop (i + 1)).all fldOk = true then (L.map mkB, 0) else ([], 3))) (cost (L.drop (i + 1)))
        (fun k hk => ih (i + 1) k (by omega) hk) L[i].length 0 k (by omega) (by omega)
      rw [List.drop_zero] at hin
      refine hin.trans ?_
      have hf : fldOk L[i] = L[i].all okc := by unfold fldOk; rw [bne_iff_ne.mpr h0, Bool.true_and]
      rw [hf]
      cases L[i].all okc with
      | true => rw [if_pos rfl, Bool.true_and]
      | false => rfl
theorem refFields_tells (l : List UInt8) (h : l.length ≤ 100000000) (k : Nat) (hk : 2 * l.length + 2 < k) : frustumref06_Fields.f k (mkB l) = some ((fieldsM l).1.map mkB, (fieldsM l).2) := by
  unfold frustumref06_Fields.f fieldsM
  rw [toList_mkB]
  by_cases h0 : l = []
  · rw [if_pos h0, if_pos h0]; rfl
  · rw [if_neg h0, if_neg h0]
    refine bind_of (refsplit_tells 32 (mkB l) (by rw [data_mkB]; omega) k (by rw [data_mkB]; omega)) ?_
    rw [data_mkB]
    have hl := spl_len 32 l []
    have hc := spl_cost 32 l
    have := rfields_loop (spl 32 [] l) (by omega) (fun x hx => by have := spl_mem_len 32 l x hx; omega) (spl 32 [] l).length 0 k (by omega) (by rw [List.drop_zero]; omega)
    rw [List.drop_zero] at this
    refine this.trans ?_
    split <;> rfl
theorem map_data (L : List (List UInt8)) : (L.map mkB).map (·.data.toList) = L := by
  rw [List.map_map]
  have : ((fun x : ByteArray => x.data.toList) ∘ mkB) = id := by funext l; rfl
  rw [this, List.map_id]
theorem join_tells (L : List (List UInt8)) (h : L.length ≤ 140737488355328) (h2 : (Lib.join L [32]).length ≤ 140737488355328) : format_JoinFields.f (L.map mkB) = some (mkB (Lib.join L [32])) := by
  unfold format_JoinFields.f strings_Join.f
  rw [List.length_map, map_data, show (⟨#[32]⟩ : ByteArray).data.toList = [32] from rfl, if_pos ⟨h, h2⟩]; rfl
theorem fields_back (l : List UInt8) (h : (fieldsM l).2 = 0) : Lib.join (fieldsM l).1 [32] = l := by
  unfold fieldsM at h ⊢
  split
  · rename_i h0; subst h0; rfl
  · rename_i h0; rw [if_neg h0] at h
    split
    · show Lib.join (spl 32 [] l) [32] = l
      rw [spl_join, List.nil_append]
    · rename_i h1; rw [if_neg h1] at h; exact absurd h (show ¬ (3 : Int) = 0 by decide)
theorem fieldsM_len (l : List UInt8) : (fieldsM l).1.length ≤ l.length + 1 := by
  unfold fieldsM
  split
  · simp
  · split
    · exact spl_len 32 l []
    · simp
theorem itoa_back (v : Int) (h0 : -4611686018427387904 ≤ v) (h1 : v ≤ 4611686018427387904) : pintM (Lib.itoa v) = (v, 0) := by
  unfold pintM Lib.itoa
  by_cases h : v < 0
  · rw [if_pos h]
    have e : rest (45 :: Lib.decDigits v.natAbs) = Lib.decDigits v.natAbs := rfl
    have e2 : neg (45 :: Lib.decDigits v.natAbs) = true := rfl
    rw [e, e2, (dec_ok _).1, (dec_ok _).2, if_pos rfl, if_neg (by omega), if_pos rfl, if_neg (by omega)]
    congr 1; omega
  · rw [if_neg h]
    have hn := neg_digit (Lib.decDigits v.toNat) [] (dec_ok _).1
    rw [List.append_nil] at hn
    rw [hn.1, hn.2, (dec_ok _).1, (dec_ok _).2, if_pos rfl, if_neg (by omega), if_neg (by decide)]
    congr 1; omega
theorem fmt_len (v : Int) : (fmtM v).length ≤ 1000 := by
  by_cases h : v < -536870911 ∨ v > 536870911
  · unfold fmtM; rw [if_pos h]; simp
  · rw [fmt_pre v (by omega) (by omega)]
    have hj := jof_range (v.natAbs % 65536)
    have hd := dec_lt (v.natAbs / 65536) (by omega)
    rw [List.length_append, List.length_cons, padD_len]
    have : (fpre v).length ≤ 21 := by unfold fpre; split <;> simp <;> omega
    omega
theorem roundLaw (a0 a1 : Int) (s : ByteArray) (hw0 : (Lit.int .i64 a0).wf = true) : ∃ k, frustumlaw06_FormatRoundTrip.f k a0 a1 s = some true := by
  have hr : -9223372036854775808 ≤ a0 ∧ a0 ≤ 9223372036854775807 := by
    simp [Lit.wf, IntKind.min, IntKind.max, IntKind.bits, IntKind.signed] at hw0; omega
  refine ⟨100004, ?_⟩
  have hex : ∀ k, 100 < k → (frustumlaw06_example.f k).bind (fun t => some t) = some true := by intro k hk; rw [example_tells k (by omega)]; rfl
  rw [eq_mkB s]
  generalize s.data.toList = l
  unfold frustumlaw06_FormatRoundTrip.f
  rw [size_mkB]
  by_cases h : l.length > 2000
  · rw [if_pos (by omega)]; exact hex _ (by decide)
  · rw [if_neg (by omega)]
    have hfld : ∀ k, 10000 < k → (format_Fields.f k (mkB l)).bind (fun bt => if bt.2 = 0 then (format_JoinFields.f bt.1).bind (fun t => if t.toList = (mkB l).toList then (frustumlaw06_example.f k).bind (fun t => some t) else some false) else (frustumlaw06_example.f k).bind (fun t => some t)) = some true := by
      intro k hk
      refine bind_of (fields_tells l (by omega) k (by omega)) ?_
      show (if (fieldsM l).2 = 0 then _ else _) = _
      by_cases h0 : (fieldsM l).2 = 0
      · rw [if_pos h0]
        have hb := fields_back l h0
        have hl := fieldsM_len l
        refine bind_of (join_tells (fieldsM l).1 (by omega) (by rw [hb]; omega)) ?_
        rw [hb, if_pos rfl]
        exact hex _ (by omega)
      · rw [if_neg h0]; exact hex _ (by omega)
    have h1 : ∀ k, 10010 < k → frustumlaw06_FormatRoundTrip.j1 (k + 3) a1 (mkB l) = some true := by
      intro k hk
      simp only [frustumlaw06_FormatRoundTrip.j1]
      have hn : frustumlaw06_FormatRoundTrip.j2 (k + 2) a1 (mkB l) false = some true := by
        simp only [frustumlaw06_FormatRoundTrip.j2, Bool.false_eq_true, if_false]
        exact hfld (k + 1) (by omega)
      by_cases hlo : a1 ≥ -536870911
      · rw [if_pos hlo]
        by_cases hhi : a1 ≤ 536870911
        · rw [decide_eq_true hhi]
          simp only [frustumlaw06_FormatRoundTrip.j2, if_true]
          refine bind_of (formatFixed_tells a1 (k + 1) (by omega)) ?_
          have hfl := fmt_len a1
          refine bind_of (parseFixed_tells _ (by rw [data_mk]; omega) (k + 1) (by rw [data_mk]; omega)) ?_
          rw [data_mk, back_fixed a1 hlo hhi, if_pos rfl]
          simp only [frustumlaw06_FormatRoundTrip.j3]
          rw [if_neg (by decide)]
          exact hfld k (by omega)
        · rw [decide_eq_false hhi]; exact hn
      · rw [if_neg hlo]; exact hn
    by_cases hlo : a0 ≥ -4611686018427387904
    · rw [if_pos hlo]
      by_cases hhi : a0 ≤ 4611686018427387904
      · rw [decide_eq_true hhi, show (100004 : Nat) = 100000 + 3 + 1 from rfl]
        simp only [frustumlaw06_FormatRoundTrip.j0, if_true]
        refine bind_of (formatInt_tells a0 hr.1 hr.2) ?_
        have hlen : (Lib.itoa a0).length ≤ 10000 := by
          have : (Lib.itoa a0).length ≤ 21 := by
            unfold Lib.itoa
            have hd : ∀ u : Nat, u ≤ 4611686018427387904 → (Lib.decDigits u).length ≤ 20 := by
              intro u hu
              by_cases h10 : u < 10
              · rw [dec_small h10]; exact (by decide : 1 ≤ 20)
              have hl := Lib.decDigits_length u
              have := Lib.numDigits_eq u (by omega) (by omega)
              have h3 := this.1; have h4 := this.2
              split at h3 <;> omega
            split
            · have := hd a0.natAbs (by omega)
              rw [List.length_cons]; omega
            · have := hd a0.toNat (by omega)
              omega
          omega
        refine bind_of (parseInt_tells _ (by rw [data_mk]; omega) (100000 + 3) (by rw [data_mk]; omega)) ?_
        rw [data_mk, itoa_back a0 hlo hhi, if_pos rfl, if_pos rfl]
        exact h1 100000 (by decide)
      · rw [decide_eq_false hhi, show (100004 : Nat) = 100000 + 3 + 1 from rfl]
        simp only [frustumlaw06_FormatRoundTrip.j0, Bool.false_eq_true, if_false]
        exact h1 100000 (by decide)
    · rw [if_neg hlo, show (100004 : Nat) = 100000 + 3 + 1 from rfl]
      simp only [frustumlaw06_FormatRoundTrip.j0, Bool.false_eq_true, if_false]
      exact h1 100000 (by decide)
/-! Fields, joined. -/
theorem jt_cons (c : List UInt8) (x : List UInt8) (r : List (List UInt8)) : Lib.joinTail c (x :: r) = c ++ x ++ Lib.joinTail c r := by unfold Lib.joinTail; simp
theorem jt_len (r : List (List UInt8)) (h : ∀ x ∈ r, x.length ≤ 140737488351232) : (Lib.joinTail [32] r).length ≤ r.length * 140737488351233 := by
  induction r with
  | nil => simp [Lib.joinTail]
  | cons x r ih =>
    have h1 := h x List.mem_cons_self
    have h2 := ih (fun y hy => h y (List.mem_cons_of_mem _ hy))
    rw [jt_cons]
    simp only [List.length_append, List.length_cons, List.length_nil]
    omega
theorem refjoin_loop (L : List (List UInt8)) (hL : L.length ≤ 200) (d : Nat) : ∀ (i k : Nat) (acc : List UInt8), 1 ≤ i → i + d = L.length → d < k → acc.length + (Lib.joinTail [32] (L.drop i)).length ≤ 1000000000000000000 →
    frustumref06_JoinFields.l0 k (L.map mkB) (mkB acc) i = some (mkB (acc ++ Lib.joinTail [32] (L.drop i))) := by
  induction d with
  | zero =>
    intro i k acc h1 h hk ha
    obtain ⟨k, rfl⟩ : ∃ m, k = m + 1 := ⟨k - 1, by omega⟩
    simp only [frustumref06_JoinFields.l0]
    rw [List.length_map, if_neg (by omega), List.drop_eq_nil_of_le (by omega), show Lib.joinTail [32] [] = [] from rfl, List.append_nil]
  | succ d ih =>
    intro i k acc h1 h hk ha
    obtain ⟨k, rfl⟩ : ∃ m, k = m + 1 := ⟨k - 1, by omega⟩
    have hi : i < L.length := by omega
    rw [List.drop_eq_getElem_cons hi, jt_cons] at ha ⊢
    simp only [List.length_append, List.length_singleton] at ha
    simp only [frustumref06_JoinFields.l0]
    rw [List.length_map, if_pos (by omega), if_pos (by omega), rd_at L i hi, show (⟨#[32]⟩ : ByteArray) = mkB [32] from rfl, app_mkB, app_mkB, size_mkB, size_mkB, size_mkB]
    rw [if_pos (by omega), if_pos (by omega), if_pos (by simp only [List.length_append, List.length_singleton]; omega), wrap_in (by omega) (by omega)]
    rw [show (i : Int) + 1 = ((i + 1 : Nat) : Int) by omega, ih (i + 1) k (acc ++ [32] ++ L[i]) (by omega) (by omega) (by omega) (by simp only [List.length_append, List.length_singleton]; omega)]
    simp only [List.append_assoc]
theorem refjoin_tells (L : List (List UInt8)) (hL : L.length ≤ 200) (h : ∀ x ∈ L, x.length ≤ 140737488351232) (k : Nat) (hk : 201 < k) : frustumref06_JoinFields.f k (L.map mkB) = some (mkB (Lib.join L [32])) := by
  unfold frustumref06_JoinFields.f
  obtain ⟨k, rfl⟩ : ∃ m, k = m + 1 := ⟨k - 1, by omega⟩
  simp only [frustumref06_JoinFields.l0]
  rw [List.length_map]
  cases L with
  | nil => rfl
  | cons x r =>
    have h1 := h x List.mem_cons_self
    have h2 := jt_len r (fun y hy => h y (List.mem_cons_of_mem _ hy))
    rw [List.length_cons] at hL
    rw [List.length_cons, if_pos (by omega), if_neg (by decide), if_pos (by decide)]
    have hrd : rdOf ByteArray.empty (List.map mkB (x :: r)) 0 = mkB x := rfl
    rw [hrd, show (⟨#[]⟩ : ByteArray) = mkB [] from rfl, app_mkB, size_mkB, size_mkB, if_pos (by simp only [List.length_nil]; omega), wrap_in (by omega) (by omega)]
    have := refjoin_loop (x :: r) (by rw [List.length_cons]; omega) r.length 1 k ([] ++ x) (Nat.le_refl _) (by rw [List.length_cons]; omega) (by omega) (by rw [List.drop_succ_cons, List.drop_zero, List.nil_append]; omega)
    rw [List.drop_succ_cons, List.drop_zero] at this
    rw [Lib.join_cons]
    exact this
theorem list_mkB (l1 : List ByteArray) : l1 = (l1.map (·.data.toList)).map mkB := by
  rw [List.map_map]
  have : (mkB ∘ fun x : ByteArray => x.data.toList) = id := by funext s; exact (eq_mkB s).symm
  rw [this, List.map_id]
theorem fieldsLaw (s : ByteArray) (l1 : List ByteArray) (h1 : ∀ x ∈ l1, x.size ≤ 140737488351232) : ∃ k, frustumlaw06_FormatFields.f k s l1 = some true := by
  refine ⟨100001, ?_⟩
  have hex : ∀ k, 100 < k → (frustumlaw06_example.f k).bind (fun t => some t) = some true := by intro k hk; rw [example_tells k (by omega)]; rfl
  have hL : ∀ x ∈ l1.map (·.data.toList), x.length ≤ 140737488351232 := by
    intro x hx
    obtain ⟨y, hy, rfl⟩ := List.mem_map.1 hx
    have := h1 y hy
    rw [size_len] at this
    exact this
  have hll : l1.length = (l1.map (·.data.toList)).length := by rw [List.length_map]
  rw [list_mkB l1, eq_mkB s]
  clear h1
  generalize l1.map (·.data.toList) = L at *
  generalize s.data.toList = l
  have hT : frustumlaw06_FormatFields.j0 100001 (mkB l) (L.map mkB) true = some true := by
    rw [show (100001 : Nat) = 100000 + 1 from rfl]
    simp only [frustumlaw06_FormatFields.j0, if_true]
    exact hex _ (by decide)
  unfold frustumlaw06_FormatFields.f
  rw [size_mkB, List.length_map]
  by_cases h : l.length > 2000
  · rw [if_pos (by omega)]; exact hT
  · rw [if_neg (by omega)]
    by_cases h2 : L.length > 200
    · rw [if_pos (by omega)]; exact hT
    · rw [if_neg (by omega)]
      refine bind_of (refjoin_tells L (by omega) hL 100001 (by decide)) ?_
      rw [size_mkB]
      by_cases h3 : (Lib.join L [32]).length > 2000
      · rw [decide_eq_true (by omega)]; exact hT
      · rw [decide_eq_false (by omega), show (100001 : Nat) = 100000 + 1 from rfl]
        simp only [frustumlaw06_FormatFields.j0, Bool.false_eq_true, if_false]
        refine bind_of (fields_tells l (by omega) 100000 (by omega)) ?_
        refine bind_of (refFields_tells l (by omega) 100000 (by omega)) ?_
        have hfl := fieldsM_len l
        refine bind_of (same_tells (fieldsM l).1 (by omega) 100000 (by omega)) ?_
        rw [if_pos rfl, if_pos rfl]
        refine bind_of (join_tells L (by omega) (by omega)) ?_
        refine bind_of (refjoin_tells L (by omega) hL 100000 (by decide)) ?_
        rw [if_pos rfl]
        exact hex _ (by decide)
end Go.Proofs.YtkmnkikcbmfecaaDoor.Pure
