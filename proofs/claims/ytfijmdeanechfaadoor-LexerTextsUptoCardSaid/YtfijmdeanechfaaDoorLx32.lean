/- Text and the reference's Text: entries. -/
import Derived.Test.YtfijmdeanechfaaDoorLx31
namespace Go.Proofs.YtfijmdeanechfaaDoor.Lx
open Go Go.RowKit Go.Proofs.YtfijmdeanechfaaDoor.Eng
set_option linter.unusedVariables false
set_option linter.unusedSimpArgs false
theorem Entry.below {P : Program} {f : FuncId} {g : EntF} (h : ∀ O w0 args M k, g O w0 args M k → ∃ x, k x M ∧ ∀ β w, Inv O w0 β M w → Calls P f (fr β args) w (fun e w' => e = .returned (x.den β) ∧ Below w.heap.size w w')) : ∀ O w0, Entry P O w0 f (g O w0) := fun O w0 hf args M k hg hm β w hI => by
  obtain ⟨x, hk, hc⟩ := h O w0 args M k hg
  refine (hc β w hI).mono ?_
  rintro e w' ⟨rfl, hb⟩
  exact ⟨x, M, β, hk, rfl, hI.after ⟨hb.os, hb.tape, hb.output, hb.size, fun r hr _ => hb.block r hr⟩, Grow.refl _ _, fun r hr => hb.block r hr⟩
theorem e35 (O : Nat → Prop) (w0 : World) : Entry Tryd.prog O w0 35 (gJoin O w0) := Entry.below (g := gJoin) (fun O w0 args M k hg => by
  unfold gJoin at hg
  split at hg
  case h_2 => exact hg.elim
  rename_i p sep
  split at hg
  case h_2 => exact hg.elim
  rename_i m f hp
  obtain ⟨xs, ⟨hm, hx⟩, ⟨h1⟩, ⟨h2⟩, hk⟩ := hg
  refine ⟨_, hk, fun β w hI => ?_⟩
  have hL := hI.ls p 9 1 m f hp
  have hsv : ∀ v, (β.v p) = v → (SC.lst p).den β = .slice v.1 v.2.1 v.2.2 := fun v e => by show β.sv p = _; unfold Env.sv; rw [e]
  rcases hL.facts with ⟨e1, e2⟩ | ⟨cap, cur, e1, _, e3, e4, e5, e6, e7⟩
  · have : xs = [] := List.eq_nil_of_length_eq_zero (by omega)
    subst this
    have hd := hsv _ e1
    refine Calls.mono (R := fun e w' => e = .returned (.string ⟨#[]⟩) ∧ w' = w) ?_ ?_
    · have := Tryd.strings_Join_none none 0 sep w
      have e : fr β [SX.v (SV.c (SC.lst p)), SX.v (SV.c (SC.val (Value.string sep)))] = #[.slice none 0 0, .string sep] := by
        show #[(SC.lst p).den β, _] = _
        rw [hd]; rfl
      rw [e]; exact this
    · rintro e w' ⟨rfl, rfl⟩
      exact ⟨rfl, Below.refl _ _⟩
  · have hd := hsv _ e1
    have e : fr β [SX.v (SV.c (SC.lst p)), SX.v (SV.c (SC.val (Value.string sep)))] = #[.slice (some ⟨β p, 0, none⟩) xs.length cap, .string sep] := by
      show #[(SC.lst p).den β, _] = _
      rw [hd, hm]; rfl
    rw [e]
    refine Tryd.strings_Join (β p) 0 cap xs sep w (fun j x hj => ?_) (Array.getElem?_eq_some_iff.1 e3).1 (by omega) (by omega) (by omega)
    have hjl : j < m := by have := (List.getElem?_eq_some_iff.1 hj).1; omega
    obtain ⟨a, ha, hc⟩ := hL.cell hjl (m := 0) (c := .val (.string x)) (by rw [hx j hjl, List.getD_eq_getElem?_getD, hj]; rfl)
    rw [e1] at ha
    obtain rfl := Option.some.inj ha
    rw [Nat.mul_one, Nat.add_zero, add_plain0] at hc
    rw [Nat.zero_add]; exact hc) O w0
theorem Γ22_ok : TSF Tryd.prog Γ22 := Γ21_ok.add e35
/-! ### plain -/
def byt (x : ByteArray) : List UInt8 := x.data.toList
theorem byt_app (x y : ByteArray) : byt (x ++ y) = byt x ++ byt y := by simp [byt, ByteArray.data_append]
theorem byt_inj {x y : ByteArray} (h : byt x = byt y) : x = y := by
  cases x; cases y
  congr 1
  exact Array.toList_inj.1 h
theorem byt_joinT : ∀ l : List ByteArray, byt (joinT l) = Lib.join (l.map byt) [32]
  | [] => rfl
  | x :: r => by
    rw [List.map_cons, Lib.join_cons, joinT_cons, byt_app]
    congr 1
    cases r with
    | nil => rfl
    | cons y r =>
      show byt (⟨#[32]⟩ ++ joinT (y :: r)) = _
      rw [byt_app, byt_joinT (y :: r), List.map_cons, Lib.join_cons]
      simp [Lib.joinTail, byt]
theorem joinT_lib (l : List ByteArray) : (⟨(Lib.join (l.map (·.data.toList)) [32]).toArray⟩ : ByteArray) = joinT l := by
  apply byt_inj
  rw [byt_joinT]
  show (Lib.join (l.map (·.data.toList)) [32]).toArray.toList = _
  rw [List.toList_toArray]; rfl
theorem joinT_snoc (l : List ByteArray) (x : ByteArray) (h : l ≠ []) : joinT (l ++ [x]) = joinT l ++ ⟨#[32]⟩ ++ x := by
  apply byt_inj
  cases l with
  | nil => exact absurd rfl h
  | cons y r =>
    rw [byt_app, byt_app, byt_joinT, byt_joinT, List.cons_append, List.map_cons, List.map_cons, Lib.join_cons, Lib.join_cons]
    simp [Lib.joinTail, byt]
def txs (ts : List Tok) : List ByteArray := (ts.filter fun t => t.kind != 5).map (·.text)
def wtS : List ByteArray → Nat
  | [] => 0
  | x :: r => x.size + 1 + wtS r
theorem wtS_app : ∀ (a b : List ByteArray), wtS (a ++ b) = wtS a + wtS b
  | [], b => by show wtS b = 0 + wtS b; omega
  | x :: a, b => by
    have := wtS_app a b
    show x.size + 1 + wtS (a ++ b) = x.size + 1 + wtS a + wtS b
    omega
theorem joinT_size : ∀ l : List ByteArray, (joinT l).size ≤ wtS l
  | [] => Nat.zero_le _
  | [x] => by show x.size ≤ x.size + 1 + 0; omega
  | x :: y :: r => by
    have := joinT_size (y :: r)
    show (x ++ (⟨#[32]⟩ ++ joinT (y :: r))).size ≤ x.size + 1 + wtS (y :: r)
    rw [app_size, app_size]
    have : (ByteArray.mk #[32]).size = 1 := rfl
    omega
structure TxtW (ts : List Tok) : Prop where
  w : wtS (txs ts) ≤ 1000000000
  n : ts.length ≤ 10000000
theorem txs_take {ts : List Tok} {i : Nat} (h : i < ts.length) : txs (ts.take (i + 1)) = txs (ts.take i) ++ (if (ts.getD i z4).kind = 5 then [] else [(ts.getD i z4).text]) := by
  have e : ts.getD i z4 = ts[i] := by rw [List.getD_eq_getElem?_getD, List.getElem?_eq_getElem h]; rfl
  rw [List.take_succ_eq_append_getElem h, e]
  unfold txs
  rw [List.filter_append, List.map_append]
  congr 1
  by_cases c : ts[i].kind = 5
  · simp [c]
  · simp [c]
theorem txs_pre (ts : List Tok) (i : Nat) : wtS (txs (ts.take i)) ≤ wtS (txs ts) ∧ (txs (ts.take i)).length ≤ ts.length := by
  have e : ts = ts.take i ++ ts.drop i := (List.take_append_drop i ts).symm
  have e2 : txs ts = txs (ts.take i) ++ txs (ts.drop i) := by
    conv => lhs; rw [e]
    unfold txs; rw [List.filter_append, List.map_append]
  refine ⟨by rw [e2, wtS_app]; omega, ?_⟩
  unfold txs
  rw [List.length_map]
  have := List.length_filter_le (fun t : Tok => t.kind != 5) (ts.take i)
  have h2 : (ts.take i).length ≤ ts.length := by rw [List.length_take]; omega
  omega
theorem room_big {n b : Nat} (h : n ≤ 10000001) (hb : b ≤ 1000) : Room n b := ⟨Nat.le_trans (Nat.mul_le_mul (by omega : n + n / 4 + 192 ≤ 20000000) hb) (by decide)⟩
/-- The tokens that a value holds: rows that came in, or a list of our own. -/
inductive TokL (O : Nat → Prop) (w0 : World) (M : List Blk) (x : SX) (ts : List Tok) : Prop where
  | row (A : Option Addr) (c : Nat) (h : ∀ β, x.den β = (tkV A (fun j => ts.getD j z4) ts.length c).den β) (hr : ∀ j, j < ts.length → A.isSome = true ∧ RowAt O w0 A 4 (tkR (fun j => ts.getD j z4) j) j)
  | lst (p : Nat) (h : x = .v (.c (.lst p))) (hp : M[p]? = some (tkL ts))
theorem TokL.rows {O : Nat → Prop} {w0 w : World} {β : Env} {M : List Blk} {x : SX} {ts : List Tok} (h : TokL O w0 M x ts) (hI : Inv O w0 β M w) :
    ∃ A c, (tkV A (fun j => ts.getD j z4) ts.length c).den β = x.den β ∧ ∀ j, j < ts.length → A.isSome = true ∧ RowAt (fun _ => False) w A 4 (tkR (fun j => ts.getD j z4) j) j := by
  cases h with
  | row A c h hr => exact ⟨A, c, (h β).symm, fun j hj => ⟨(hr j hj).1, (hr j hj).2.at hI.fr⟩⟩
  | lst p h hp =>
    subst h
    obtain ⟨e, r⟩ := hI.rows hp
    exact ⟨(β.v p).1, (β.v p).2.2, e.symm, r⟩
def gTxt : EntF := fun O w0 args M k => match args with
  | [a] => ∃ ts, TokL O w0 M a ts ∧ TxtW ts ∧ ∀ S, S = joinT (txs ts) → k (tV S) M
  | _ => False
def R21 (ts : List Tok) : LstN → Prop := fun ⟨i, m, f⟩ => 0 ≤ i ∧ i ≤ ts.length ∧ LsX (fun x => [SC.val (.string x)]) ⟨#[]⟩ m f (txs (ts.take i.toNat))
def R22 (ts : List Tok) : TxS → Prop := fun ⟨i, s, b⟩ => 0 ≤ i ∧ i ≤ ts.length ∧ s = joinT (txs (ts.take i.toNat)) ∧ b = (txs (ts.take i.toNat)).isEmpty
theorem e21 (O : Nat → Prop) (w0 : World) : Entry Tryd.prog O w0 21 (gTxt O w0) :=
  Entry.pureM Γ22_ok 100 5 (g := gTxt) (fun O w0 args M k hg => by
    unfold gTxt at hg
    split at hg
    case h_2 => exact hg.elim
    rename_i a
    obtain ⟨ts, hT, ⟨hw, hn⟩, hk⟩ := hg
    refine ⟨_, rfl, hk _ rfl, fun β w hI => ?_⟩
    obtain ⟨A, c, hd, hr⟩ := hT.rows hI
    refine ⟨[tkV A (fun j => ts.getD j z4) ts.length c], _, by unfold fr; simp only [List.map_cons, hd, List.map_nil], f21 _ w A (fun j => ts.getD j z4) ts.length c (R21 ts) _ ?_⟩
    refine ⟨fun _ _ => Nat.zero_le _, ⟨⟨by omega, by omega, LsX.nil _ _ _⟩, rfl, fun _ => rfl⟩, ?_⟩
    rintro ⟨i, m, f⟩ J ⟨i0, i1, hx⟩
    obtain ⟨i, rfl⟩ : ∃ n : Nat, i = n := ⟨i.toNat, by omega⟩
    rw [Int.toNat_natCast] at hx
    have hp := txs_pre ts i
    have hlen := hx.len
    dsimp only
    refine cond_of (fun h => ?_) (fun h => ?_)
    · have h := of_decide_eq_true h
      have ht := txs_take (ts := ts) (i := i) (by omega)
      rw [Nat.zero_add, wrap_in (by omega) (by omega), Int.toNat_natCast]
      refine ⟨⟨by omega, h⟩, (hr i (by omega)).1, (hr i (by omega)).2, cond_of (fun c => ?_) (fun c => ?_)⟩
      · have c : (ts.getD i z4).kind ≠ 5 := by simpa using c
        rw [if_neg c] at ht
        exact ⟨room_big (by omega) (by decide), ⟨⟨by omega, by omega, by rw [show ((i : Int) + 1).toNat = i + 1 by omega, ht]; exact hx.push _ rfl⟩, rfl, fun _ => rfl⟩, ⟨by show (_ : Int).toNat < (_ : Int).toNat; omega⟩⟩
      · have c : (ts.getD i z4).kind = 5 := by simpa using c
        rw [if_pos c, List.append_nil] at ht
        exact ⟨⟨⟨by omega, by omega, by rw [show ((i : Int) + 1).toNat = i + 1 by omega, ht]; exact hx⟩, rfl, fun _ => rfl⟩, ⟨by show (_ : Int).toNat < (_ : Int).toNat; omega⟩⟩
    · have h := of_decide_eq_false h
      rw [List.take_of_length_le (by omega)] at hx
      have hj := joinT_lib (txs ts)
      have hz := joinT_size (txs ts)
      have hl2 := txs_pre ts ts.length
      rw [List.take_of_length_le (Nat.le_refl _)] at hl2
      refine ⟨txs ts, hx, ⟨?_⟩, ⟨by omega⟩, fun _ => ?_⟩
      · have e : (Lib.join ((txs ts).map (·.data.toList)) [32]).length = (joinT (txs ts)).size := by rw [← hj]; simp [ByteArray.size]
        rw [e]; omega
      · rw [hj]) O w0
theorem e22 (O : Nat → Prop) (w0 : World) : Entry Tryd.prog O w0 22 (gTxt O w0) :=
  Entry.pureM Γ21_ok 100 5 (g := gTxt) (fun O w0 args M k hg => by
    unfold gTxt at hg
    split at hg
    case h_2 => exact hg.elim
    rename_i a
    obtain ⟨ts, hT, ⟨hw, hn⟩, hk⟩ := hg
    refine ⟨_, rfl, hk _ rfl, fun β w hI => ?_⟩
    obtain ⟨A, c, hd, hr⟩ := hT.rows hI
    refine ⟨[tkV A (fun j => ts.getD j z4) ts.length c], _, by unfold fr; simp only [List.map_cons, hd, List.map_nil], f22 _ w A (fun j => ts.getD j z4) ts.length c (R22 ts) _ ?_⟩
    refine ⟨fun _ _ => Nat.zero_le _, ⟨⟨by omega, by omega, rfl, rfl⟩, rfl, fun _ => rfl⟩, ?_⟩
    rintro ⟨i, s, b⟩ J ⟨i0, i1, hs, hb⟩
    obtain ⟨i, rfl⟩ : ∃ n : Nat, i = n := ⟨i.toNat, by omega⟩
    rw [Int.toNat_natCast] at hs hb
    dsimp only
    refine cond_of (fun h => ?_) (fun h => ?_)
    · have h := of_decide_eq_true h
      have ht := txs_take (ts := ts) (i := i) (by omega)
      have hp := txs_pre ts (i + 1)
      have hz := joinT_size (txs (ts.take i))
      have e1 : ((i : Int) + 1).toNat = i + 1 := by omega
      have h1 := (hr i (by omega)).1
      have h2 := (hr i (by omega)).2
      have hin : In (i : Int) (ts.length : Int) := ⟨by omega, h⟩
      rw [Nat.zero_add, wrap_in (by omega) (by omega), Int.toNat_natCast]
      refine ⟨hin, h1, h1, h2, cond_of (fun c => ?_) (fun c => ?_)⟩
      · have c : (ts.getD i z4).kind = 5 := by simpa using c
        rw [if_pos c, List.append_nil] at ht
        exact ⟨⟨⟨by omega, by omega, by rw [e1, ht]; exact hs, by rw [e1, ht]; exact hb⟩, rfl, fun _ => rfl⟩, ⟨by show (_ : Int).toNat < (_ : Int).toNat; omega⟩⟩
      · have c : (ts.getD i z4).kind ≠ 5 := by simpa using c
        rw [if_neg c] at ht
        rw [ht, wtS_app] at hp
        have hp1 : wtS (txs (ts.take i)) + ((ts.getD i z4).text.size + 1 + 0) ≤ wtS (txs ts) := hp.1
        have z1 : (ByteArray.mk #[(32 : UInt8)]).size = 1 := rfl
        refine cond_of (fun c2 => ?_) (fun c2 => ?_)
        · have hne : txs (ts.take i) ≠ [] := fun e => by rw [hb, e] at c2; cases c2
          rw [app_size, z1, hs]
          refine ⟨⟨by omega⟩, hin, h1, h1, h2, ⟨by omega⟩, ⟨⟨by omega, by omega, by rw [e1, ht, joinT_snoc _ _ hne], by rw [e1, ht]; cases txs (ts.take i) <;> rfl⟩, rfl, fun _ => rfl⟩, ⟨by show (_ : Int).toNat < (_ : Int).toNat; omega⟩⟩
        · have hne : txs (ts.take i) = [] := by
            have : b = true := by simpa using c2
            rw [hb] at this
            simpa using this
          rw [hne] at ht hs
          rw [hs]
          refine ⟨hin, h1, h1, h2, ⟨by show 0 + _ ≤ _; omega⟩, ⟨⟨by omega, by omega, ?_, by rw [e1, ht]; rfl⟩, rfl, fun _ => rfl⟩, ⟨by show (_ : Int).toNat < (_ : Int).toNat; omega⟩⟩
          rw [e1, ht]
          show (⟨#[]⟩ : ByteArray) ++ _ = _
          refine ba_ext ?_ fun j hj => ?_
          · rw [app_size]; show 0 + _ = _; exact Nat.zero_add _
          · have := app_r (x := ⟨#[]⟩) (y := (ts.getD i z4).text) (i := j)
            have e0 : ((ByteArray.mk #[]).size + j : Nat) = j := Nat.zero_add j
            rw [e0] at this
            exact this
    · have h := of_decide_eq_false h
      rw [List.take_of_length_le (by omega)] at hs
      rw [hs]
      exact fun _ => rfl) O w0
def Γ23 : TabF := addF (addF Γ21 21 gTxt) 22 gTxt
theorem Γ23_ok : TSF Tryd.prog Γ23 := (Γ21_ok.add e21).add e22
end Go.Proofs.YtfijmdeanechfaaDoor.Lx
