/- ParseLine: what a line says (plain); the contracts that it takes. -/
import Derived.Test.YtfhckpfiegenaaaGreatDoorCm22
namespace Go.Proofs.YtfhckpfiegenaaaGreatDoor.Tr
open Go Go.RowKit Go.Proofs.YtfhckpfiegenaaaGreatDoor.Eng Go.Proofs.YtfhckpfiegenaaaGreatDoor.Cm
set_option linter.unusedVariables false
set_option linter.unusedSimpArgs false
set_option maxRecDepth 8000
abbrev zI : SC := .val (.int .i64 0)
/-- A command: one that came in, or one whose list is of the memory at hand (or none). -/
structure CmdM (O : Nat → Prop) (w0 : World) (M : List Blk) (x : SX) (c : S33) : Prop where
  le : c.f9.length ≤ 9223372036854775807
  out : CmdX O w0 x c ∨ (∃ k, x = .v (.agg (cells33 c (.lst k))) ∧ ∃ F, M[k]? = some (.lst 3 1 c.f9.length F) ∧ ∀ j, j < c.f9.length → F j = ints c.f9 j) ∨ (x = .v (.agg (cells33 c (.val (.slice none 0 0)))) ∧ c.f9 = [])
def gChkM : EntF := fun O w0 args M k => match args with
  | [a] => Gl0 O w0 ∧ ∃ c, CmdM O w0 M a c ∧ ∀ e, e = chk c → k (iV e) M
  | _ => False
/-- Fields, where there are some. -/
def gFldN (nm : ByteArray) (xs : List ByteArray) : EntF := fun O w0 args M k => match args with
  | [.v (.c (.val (.string s)))] => GlT O w0 ∧ SzM s ∧ FldIs s (nm :: xs) 0 ∧ k (.tup [.c (.lst M.length), .c (.val (.int .i64 0))]) (M ++ [.lst 9 1 (xs.length + 1) (strsAt (nm :: xs))])
  | _ => False
/-- Fields, where there is none, or an error. -/
def gFldE (e : Int) : EntF := fun O w0 args M k => match args with
  | [.v (.c (.val (.string s)))] => GlT O w0 ∧ SzM s ∧ FldIs s [] e ∧ k (.tup [.c (.lst M.length), .c (.val (.int .i64 e))]) (M ++ [.lst 9 1 0 (strsAt [])])
  | _ => False
def wideJ (M : List Blk) (ts : List SX) : Option Bool := match ts.getD 0 undefX, ts.getD 7 undefX with
  | .v (.c (.ptr c _)), .v (.c (.val (.int _ e))) => (match M[c]? with
    | some (.mk _ [_, _, _, _, .val (.bool w)]) => some (w || (e == 6))
    | _ => none)
  | _, _ => none
def synJ (M : List Blk) (ts : List SX) : Option Bool := match ts.getD 0 undefX, ts.getD 7 undefX with
  | .v (.c (.ptr c _)), .v (.c (.val (.int _ e))) => (match M[c]? with
    | some (.mk _ [_, _, _, .val (.bool s), _]) => some (s || ((e != 0) && (e != 6)))
    | _ => none)
  | _, _ => none
def wrdJ (M : List Blk) (ts : List SX) : Option Bool := match ts.getD 0 undefX, ts.getD 6 undefX with
  | .v (.c (.ptr c _)), .v (.c (.val (.int _ i))) => (match M[c]? with
    | some (.mk _ [_, _, _, .val (.bool s), _]) => some (s || decide (i < 0))
    | _ => none)
  | _, _ => none
def Λ10 : LT := fun g j => bif Nat.beq g (MKF + 39) then (bif Nat.beq j (MB + 6) then some (.bool 6 3 46 wideJ) else bif Nat.beq j (MB + 7) then some (.bool 6 7 61 synJ) else none)
  else bif Nat.beq g (MKF + 40) || (Nat.beq g (MKF + 45) || Nat.beq g (MKF + 77)) then (bif Nat.beq j (MB + 3) then some (.bool 6 3 38 wrdJ) else none) else none
def ΓR (nm : ByteArray) (xs : List ByteArray) (n : Int) : TabF := addF (addF (addF (addF (addW (addF (addF Γz 26 (gFldN nm xs)) 27 (gKd n)) 74 (gNx (nm :: xs))) 73 gInt) 18 gChkM) (GK + 1) (gGw 1 ixTab)) (GK + 2) (gGw 2 stTab)
def ΓR2 (nm : ByteArray) (xs : List ByteArray) (n : Int) : TabF := addF (ΓR nm xs n) 76 gIx
/-! what a line says -/
def nxT (xs : List ByteArray) (a : Int) : ByteArray := if a < xs.length then xs.getD a.toNat ⟨#[63]⟩ else ⟨#[48]⟩
/-- Where the reading stands: the place, whether a field was not as required, whether a number was out of range. -/
structure St where
  a : Int
  s : Bool
  w : Bool
def st0 : St := ⟨0, false, false⟩
def nxA (xs : List ByteArray) (a : Int) : Int := if a < xs.length then a + 1 else a
def stN (xs : List ByteArray) (S : St) : St := ⟨nxA xs S.a, (S.s || !decide (S.a < xs.length)) || ((intP (nxT xs S.a)).2 != 0 && (intP (nxT xs S.a)).2 != 6), S.w || ((intP (nxT xs S.a)).2 == 6)⟩
def stW (tab xs : List ByteArray) (S : St) : St := ⟨nxA xs S.a, (S.s || !decide (S.a < xs.length)) || decide (idxT tab (nxT xs S.a) < 0), S.w⟩
def vlN (xs : List ByteArray) (S : St) : Int := (intP (nxT xs S.a)).1
def vlW (tab xs : List ByteArray) (S : St) : Int := idxT tab (nxT xs S.a) + 1
def stNs (xs : List ByteArray) : Nat → St → St
  | 0, S => S
  | n + 1, S => stNs xs n (stN xs S)
def vlNs (xs : List ByteArray) : Nat → St → List Int
  | 0, _ => []
  | n + 1, S => vlN xs S :: vlNs xs n (stN xs S)
/-- How many values a list of fields gives. -/
def uniN (xs : List ByteArray) : Nat := max 1 (xs.length - 1)
/-- The command that the fields of a kind say. -/
def rdC (k : Int) (xs : List ByteArray) : S33 × St :=
  if k = 1 then (({ z33 with f0 := 1, f2 := vlN xs st0 } : S33), stN xs st0) else
  if k = 11 then (({ z33 with f0 := 11, f2 := vlN xs st0 } : S33), stN xs st0) else
  if k = 12 then (({ z33 with f0 := 12, f2 := vlN xs st0 } : S33), stN xs st0) else
  if k = 2 then (({ z33 with f0 := 2, f1 := vlN xs st0, f2 := vlN xs (stN xs st0) } : S33), stN xs (stN xs st0)) else
  if k = 5 then (({ z33 with f0 := 5, f1 := vlN xs st0, f2 := vlN xs (stN xs st0) } : S33), stN xs (stN xs st0)) else
  if k = 3 then (({ z33 with f0 := 3, f2 := vlN xs st0, f5 := vlW ixTab xs (stN xs st0) } : S33), stW ixTab xs (stN xs st0)) else
  if k = 4 then (({ z33 with f0 := 4, f1 := vlN xs st0, f2 := vlN xs (stN xs st0), f8 := ⟨vlN xs (stN xs (stN xs st0)), vlN xs (stN xs (stN xs (stN xs st0))), vlN xs (stN xs (stN xs (stN xs (stN xs st0)))), vlN xs (stN xs (stN xs (stN xs (stN xs (stN xs st0))))), vlN xs (stN xs (stN xs (stN xs (stN xs (stN xs (stN xs st0)))))), ⟨vlN xs (stN xs (stN xs (stN xs (stN xs (stN xs (stN xs (stN xs st0))))))), vlN xs (stN xs (stN xs (stN xs (stN xs (stN xs (stN xs (stN xs (stN xs st0)))))))), vlN xs (stN xs (stN xs (stN xs (stN xs (stN xs (stN xs (stN xs (stN xs (stN xs st0))))))))), vlN xs (stN xs (stN xs (stN xs (stN xs (stN xs (stN xs (stN xs (stN xs (stN xs (stN xs st0))))))))))⟩, vlN xs (stN xs (stN xs (stN xs (stN xs (stN xs (stN xs (stN xs (stN xs (stN xs (stN xs (stN xs st0))))))))))), vlN xs (stN xs (stN xs (stN xs (stN xs (stN xs (stN xs (stN xs (stN xs (stN xs (stN xs (stN xs (stN xs st0)))))))))))), vlN xs (stN xs (stN xs (stN xs (stN xs (stN xs (stN xs (stN xs (stN xs (stN xs (stN xs (stN xs (stN xs (stN xs st0)))))))))))))⟩ } : S33), stN xs (stN xs (stN xs (stN xs (stN xs (stN xs (stN xs (stN xs (stN xs (stN xs (stN xs (stN xs (stN xs (stN xs st0)))))))))))))) else
  if k = 8 then (({ z33 with f0 := 8 } : S33), st0) else
  if k = 9 then (({ z33 with f0 := 9, f3 := vlN xs st0, f4 := vlN xs (stN xs st0) } : S33), stN xs (stN xs st0)) else
  if k = 10 then (({ z33 with f0 := 10, f2 := vlN xs st0, f6 := vlW stTab xs (stN xs st0), f7 := vlW stTab xs (stW stTab xs (stN xs st0)) } : S33), stW stTab xs (stW stTab xs (stN xs st0))) else
  if k = 13 then (({ z33 with f0 := 13, f1 := vlN xs (stN xs st0), f2 := vlN xs st0 } : S33), stN xs (stN xs st0)) else
  if k = 14 then (({ z33 with f0 := 14, f1 := vlN xs (stN xs st0), f2 := vlN xs st0 } : S33), stN xs (stN xs st0)) else
  if k = 7 then (if vlW lcTab xs (stN xs st0) ≠ 2 then (({ z33 with f0 := 7, f2 := vlN xs st0, f13 := true } : S33), stW lcTab xs (stN xs st0)) else (({ z33 with f0 := 7, f2 := vlN xs st0, f11 := vlN xs (stN xs (stN xs (stN xs (stN xs (stW lcTab xs (stN xs st0)))))), f12 := vlN xs (stN xs (stN xs (stN xs (stN xs (stN xs (stW lcTab xs (stN xs st0))))))), f10 := ⟨vlN xs (stW lcTab xs (stN xs st0)), vlN xs (stN xs (stW lcTab xs (stN xs st0))), vlN xs (stN xs (stN xs (stW lcTab xs (stN xs st0)))), vlN xs (stN xs (stN xs (stN xs (stW lcTab xs (stN xs st0)))))⟩ } : S33), stN xs (stN xs (stN xs (stN xs (stN xs (stN xs (stW lcTab xs (stN xs st0))))))))) else
  ({ z33 with f0 := 6, f3 := vlN xs st0, f9 := vlNs xs (uniN xs) (stN xs st0) }, stNs xs (uniN xs) (stN xs st0))
/-- What is returned. -/
def outP (c : S33) (S : St) (n : Nat) : S33 × Int := if S.s = true ∨ S.a < n then (z33, 3) else if S.w = true then (z33, 6) else if chk c ≠ 0 then (z33, chk c) else (c, 0)
/-- The command of a line, or the error. -/
def plS (s : ByteArray) : S33 × Int := if (fldS s).2 ≠ 0 then (z33, 3) else match (fldS s).1 with
  | [] => (z33, 3)
  | nm :: xs => if kdS nm = 0 then (z33, 3) else outP (rdC (kdS nm) xs).1 (rdC (kdS nm) xs).2 xs.length
abbrev tupC (p : S33 × Int) : SX := .tup [.agg (cells33 p.1 (.val (.slice none 0 0))), .c (.val (.int .i64 p.2))]
structure SzX (xs : List ByteArray) : Prop where
  len : xs.length ≤ 1000001
  at_ : ∀ x ∈ xs, x.size ≤ 1000000
structure StOk (xs : List ByteArray) (S : St) : Prop where
  lo : 0 ≤ S.a
  hi : S.a ≤ xs.length
theorem st0_ok {xs : List ByteArray} : StOk xs st0 := ⟨Int.le_refl _, by show (0 : Int) ≤ _; omega⟩
theorem nxA_ok {xs : List ByteArray} {a : Int} (h0 : 0 ≤ a) (h1 : a ≤ xs.length) : 0 ≤ nxA xs a ∧ nxA xs a ≤ xs.length := by
  unfold nxA
  split <;> omega
theorem stN_ok {xs : List ByteArray} {S : St} (h : StOk xs S) : StOk xs (stN xs S) := ⟨(nxA_ok h.lo h.hi).1, (nxA_ok h.lo h.hi).2⟩
theorem stW_ok {tab xs : List ByteArray} {S : St} (h : StOk xs S) : StOk xs (stW tab xs S) := ⟨(nxA_ok h.lo h.hi).1, (nxA_ok h.lo h.hi).2⟩
theorem nxok {nm : ByteArray} {xs : List ByteArray} {S : St} {a : Int} (hz : SzX xs) (h : StOk xs S) (ha : a = S.a) : NxOk (nm :: xs) (xs.length + 1 - Int.toNat 1) (xs.length + 1) a := by
  subst ha
  refine ⟨rfl, ?_, ?_, h.lo, ?_⟩
  · show xs.length + 1 = xs.length + 1 - 1 + 1; omega
  · show xs.length + 1 - 1 ≤ _; have := hz.len; omega
  · show S.a ≤ ((xs.length + 1 - 1 : Nat) : Int); have := h.hi; omega
theorem nxsz {xs : List ByteArray} {a a' : Int} {s s' : Bool} {t : ByteArray} (hz : SzX xs) (h : NxIs xs a s t a' s') : SzS t := ⟨by
  rw [h.is]
  split
  · rename_i hl
    by_cases h0 : 0 ≤ a
    · have := hz.at_ _ (getD_mem (d := ⟨#[63]⟩) (show a.toNat < xs.length by omega)); omega
    · by_cases h1 : 0 < xs.length
      · have := hz.at_ _ (getD_mem (d := ⟨#[63]⟩) (show a.toNat < xs.length by omega)); omega
      · have : xs.getD a.toNat ⟨#[63]⟩ = ⟨#[63]⟩ := by rw [List.getD_eq_getElem?_getD, List.getElem?_eq_none (by omega)]; rfl
        rw [this]; decide
  · decide⟩
theorem nx_num {xs : List ByteArray} {S : St} {a a' v e : Int} {s w s' : Bool} {t : ByteArray} (ha : a = S.a) (hs : s = S.s) (hw : w = S.w) (h : NxIs xs a s t a' s') (h2 : IntIs t v e) :
    v = vlN xs S ∧ a' = (stN xs S).a ∧ (s' || ((e != 0) && (e != 6))) = (stN xs S).s ∧ (w || (e == 6)) = (stN xs S).w := by
  subst ha hs hw
  have ht : t = nxT xs S.a := h.is
  subst ht
  exact ⟨h2.v, h.to, by rw [h.bad, h2.e]; rfl, by rw [h2.e]; rfl⟩
theorem idxT_in (l : List ByteArray) (t : ByteArray) : -1 ≤ idxT l t ∧ idxT l t < l.length := by
  unfold idxT
  split <;> omega
theorem nx_wrd {xs tab : List ByteArray} {S : St} {a a' i : Int} {s w s' : Bool} {t : ByteArray} (hl : tab.length ≤ 1000) (ha : a = S.a) (hs : s = S.s) (hw : w = S.w) (h : NxIs xs a s t a' s') (h2 : IxIs tab t i) :
    i + 1 = vlW tab xs S ∧ a' = (stW tab xs S).a ∧ (s' || decide (i < 0)) = (stW tab xs S).s ∧ w = (stW tab xs S).w ∧ IntKind.i64.wrap (i + 1) = vlW tab xs S := by
  subst ha hs hw
  have ht : t = nxT xs S.a := h.is
  subst ht
  have hi := h2.eq
  have hin := idxT_in tab (nxT xs S.a)
  rw [← hi] at hin
  have e : i + 1 = vlW tab xs S := by unfold vlW; rw [hi]
  exact ⟨e, h.to, by rw [h.bad, hi]; rfl, rfl, by rw [wrap_in (by omega) (by omega), e]⟩
theorem jn6 (w x : Bool) : bif w then true = (w || x) else x = (w || x) := by cases w <;> rfl
theorem jn7 (s : Bool) (e : Int) : bif s then true = (s || ((e != 0) && (e != 6))) else bif e != 0 then (e != 6) = (s || ((e != 0) && (e != 6))) else false = (s || ((e != 0) && (e != 6))) := by
  cases s
  · cases h : (e != 0) <;> simp
  · rfl
theorem jw3 (s x : Bool) : bif s then true = (s || x) else x = (s || x) := by cases s <;> rfl
theorem tail_ok {K : SX → Prop} {O : Nat → Prop} {w0 : World} {M : List Blk} {S : St} {c : S33} {n : Nat} {a q x y : Int} {s w : Bool} (hG : Gl0 O w0) (ha : a = S.a) (hs : s = S.s) (hw : w = S.w) (hq : q = (n : Int)) (hin : In x y) (h9 : c.f9 = []) (hK : K (tupC (outP c S n))) :
    bif s then K (tupC (z33, 3)) else In x y ∧ bif decide (a < q) then K (tupC (z33, 3)) else bif w then K (tupC (z33, 6)) else
      Gl0 O w0 ∧ ∃ c', CmdM O w0 M (.v (.agg (cells33 c (.val (.slice none 0 0))))) c' ∧ ∀ e, e = chk c' → bif e != 0 then K (tupC (z33, e)) else K (tupC (c, 0)) := by
  subst ha hs hw hq
  unfold outP at hK
  refine cond_of (fun h => ?_) (fun h => ⟨hin, cond_of (fun h2 => ?_) (fun h2 => cond_of (fun h3 => ?_) (fun h3 => ⟨hG, c, ⟨by rw [h9]; exact Nat.zero_le _, .inr (.inr ⟨rfl, h9⟩)⟩, fun e he => ?_⟩))⟩)
  · rw [if_pos (.inl h)] at hK; exact hK
  · rw [if_pos (.inr (of_decide_eq_true h2))] at hK; exact hK
  · rw [if_neg (by rintro (h4 | h4); rw [h] at h4; cases h4; exact of_decide_eq_false h2 h4), if_pos h3] at hK; exact hK
  · subst he
    rw [if_neg (by rintro (h4 | h4); rw [h] at h4; cases h4; exact of_decide_eq_false h2 h4), if_neg (by rw [h3]; decide)] at hK
    refine cond_of (fun h5 => ?_) (fun h5 => ?_)
    · rw [if_pos (by simpa using h5)] at hK; exact hK
    · rw [if_neg (by simpa using h5)] at hK; exact hK
theorem tail0 {K : SX → Prop} {O : Nat → Prop} {w0 : World} {M : List Blk} {c : S33} {n : Nat} {q x y : Int} (hG : Gl0 O w0) (hq : q = (n : Int)) (hin : In x y) (h9 : c.f9 = []) (hK : K (tupC (outP c st0 n))) :
    In x y ∧ bif decide (0 < q) then K (tupC (z33, 3)) else
      Gl0 O w0 ∧ ∃ c', CmdM O w0 M (.v (.agg (cells33 c (.val (.slice none 0 0))))) c' ∧ ∀ e, e = chk c' → bif e != 0 then K (tupC (z33, e)) else K (tupC (c, 0)) :=
  tail_ok (s := false) (w := false) (a := 0) (S := st0) hG rfl rfl rfl hq hin h9 hK
theorem rdC_7a {xs : List ByteArray} (h : vlW lcTab xs (stN xs st0) ≠ 2) : rdC 7 xs = (({ z33 with f0 := 7, f2 := vlN xs st0, f13 := true } : S33), stW lcTab xs (stN xs st0)) := by
  show (if vlW lcTab xs (stN xs st0) ≠ 2 then _ else _) = _
  rw [if_pos h]
theorem rdC_7b {xs : List ByteArray} (h : vlW lcTab xs (stN xs st0) = 2) : rdC 7 xs = (({ z33 with f0 := 7, f2 := vlN xs st0, f11 := vlN xs (stN xs (stN xs (stN xs (stN xs (stW lcTab xs (stN xs st0)))))), f12 := vlN xs (stN xs (stN xs (stN xs (stN xs (stN xs (stW lcTab xs (stN xs st0))))))), f10 := ⟨vlN xs (stW lcTab xs (stN xs st0)), vlN xs (stN xs (stW lcTab xs (stN xs st0))), vlN xs (stN xs (stN xs (stW lcTab xs (stN xs st0)))), vlN xs (stN xs (stN xs (stN xs (stW lcTab xs (stN xs st0)))))⟩ } : S33), stN xs (stN xs (stN xs (stN xs (stN xs (stN xs (stW lcTab xs (stN xs st0)))))))) := by
  show (if vlW lcTab xs (stN xs st0) ≠ 2 then _ else (({ z33 with f0 := 7, f2 := vlN xs st0, f11 := vlN xs (stN xs (stN xs (stN xs (stN xs (stW lcTab xs (stN xs st0)))))), f12 := vlN xs (stN xs (stN xs (stN xs (stN xs (stN xs (stW lcTab xs (stN xs st0))))))), f10 := ⟨vlN xs (stW lcTab xs (stN xs st0)), vlN xs (stN xs (stW lcTab xs (stN xs st0))), vlN xs (stN xs (stN xs (stW lcTab xs (stN xs st0)))), vlN xs (stN xs (stN xs (stN xs (stW lcTab xs (stN xs st0)))))⟩ } : S33), stN xs (stN xs (stN xs (stN xs (stN xs (stN xs (stW lcTab xs (stN xs st0))))))))) = _
  rw [if_neg (by rw [h]; decide)]
end Go.Proofs.YtfhckpfiegenaaaGreatDoor.Tr
