/- (renumbered from the Command chapter) The arguments of the package command's laws, out of their readings. -/
import Derived.Test.YtomnecadhiflnaaDoorCm10
import Derived.Test.YtomnecadhiflnaaDoorOpn
namespace Go.Proofs.YtomnecadhiflnaaDoor.Cm
open Go Go.RowKit Go.WideShapes Go.Proofs.YtomnecadhiflnaaDoor.Eng Go.Proofs.YtomnecadhiflnaaDoor.Opn
set_option linter.unusedVariables false
theorem u33 : Tryd.prog.underlying 34 = some (.struct (fsOf Tryd.prog 34)) := by kernel_rfl
theorem u30 : Tryd.prog.underlying 31 = some (.struct (fsOf Tryd.prog 31)) := by kernel_rfl
theorem u28 : Tryd.prog.underlying 29 = some (.struct (fsOf Tryd.prog 29)) := by kernel_rfl
theorem u31 : Tryd.prog.underlying 32 = some (.slice 3) := by kernel_rfl
theorem u39 : Tryd.prog.underlying 43 = some (.slice 34) := by kernel_rfl
theorem u3 : Tryd.prog.underlying 3 = some (.int .i64) := by kernel_rfl
theorem u4 : Tryd.prog.underlying 4 = some .bool := by kernel_rfl
theorem u22 : Tryd.prog.underlying 23 = some (.int .i64) := by kernel_rfl
theorem u23 : Tryd.prog.underlying 24 = some (.int .i64) := by kernel_rfl
theorem u24 : Tryd.prog.underlying 25 = some (.int .i64) := by kernel_rfl
theorem u25 : Tryd.prog.underlying 26 = some (.int .i64) := by kernel_rfl
theorem u26 : Tryd.prog.underlying 27 = some (.int .i64) := by kernel_rfl
theorem rdInt {w : World} {t : TypeId} {cs : List Value} {off n : Nat} (h : Rd Tryd.prog w t ((cs.drop off).take n)) (ht : Tryd.prog.underlying t = some (.int .i64)) : ∃ v, (cs.drop off).take n = [.int .i64 v] ∧ (Lit.int .i64 v).wf = true := h.int ht
theorem i64_of {n : Int} (hw : (Lit.int .i64 n).wf = true) : I64 n := by
  simp [Lit.wf, IntKind.min, IntKind.max, IntKind.bits, IntKind.signed] at hw
  exact ⟨hw.1, by omega⟩
set_option maxRecDepth 100000 in
theorem open28 {w : World} {cs : List Value} (h : Rd Tryd.prog w 29 cs) : ∃ c : S28, cs = [.int .i64 c.f0, .int .i64 c.f1, .int .i64 c.f2, .int .i64 c.f3] := by
  obtain ⟨hl, hf⟩ := h.fields u28
  have hl : cs.length = 4 := by rw [hl]; kernel_rfl
  have e0 := hf 0 0 3 (by kernel_rfl)
  have e1 := hf 1 1 3 (by kernel_rfl)
  have e2 := hf 2 2 3 (by kernel_rfl)
  have e3 := hf 3 3 3 (by kernel_rfl)
  rw [show Tryd.prog.cellsOf 3 = 1 by kernel_rfl] at e0 e1 e2 e3
  obtain ⟨v0, e0, _⟩ := rdInt e0 u3
  obtain ⟨v1, e1, _⟩ := rdInt e1 u3
  obtain ⟨v2, e2, _⟩ := rdInt e2 u3
  obtain ⟨v3, e3, _⟩ := rdInt e3 u3
  refine ⟨⟨v0, v1, v2, v3⟩, ?_⟩
  have := cut1 e0 (b := 1) rfl
  rw [List.drop_zero, cut1 e1 (b := 2) rfl, cut1 e2 (b := 3) rfl, cut1 e3 (b := 4) rfl, List.drop_eq_nil_of_le (by omega)] at this
  rw [this]; rfl
def cells30v (c : S30) : List Value := [.int .i64 c.f0, .int .i64 c.f1, .int .i64 c.f2, .int .i64 c.f3, .int .i64 c.f4, .int .i64 c.f5.f0, .int .i64 c.f5.f1, .int .i64 c.f5.f2, .int .i64 c.f5.f3, .int .i64 c.f6, .int .i64 c.f7, .int .i64 c.f8]
set_option maxRecDepth 100000 in
theorem open30 {w : World} {cs : List Value} (h : Rd Tryd.prog w 31 cs) : ∃ c : S30, cs = cells30v c := by
  obtain ⟨hl, hf⟩ := h.fields u30
  have hl : cs.length = 12 := by rw [hl]; kernel_rfl
  have e0 := hf 0 0 26 (by kernel_rfl)
  have e1 := hf 1 1 26 (by kernel_rfl)
  have e2 := hf 2 2 27 (by kernel_rfl)
  have e3 := hf 3 3 27 (by kernel_rfl)
  have e4 := hf 4 4 27 (by kernel_rfl)
  have e5 := hf 5 5 29 (by kernel_rfl)
  have e6 := hf 6 9 3 (by kernel_rfl)
  have e7 := hf 7 10 3 (by kernel_rfl)
  have e8 := hf 8 11 3 (by kernel_rfl)
  rw [show Tryd.prog.cellsOf 3 = 1 by kernel_rfl] at e6 e7 e8
  rw [show Tryd.prog.cellsOf 26 = 1 by kernel_rfl] at e0 e1
  rw [show Tryd.prog.cellsOf 27 = 1 by kernel_rfl] at e2 e3 e4
  rw [show Tryd.prog.cellsOf 29 = 4 by kernel_rfl] at e5
  obtain ⟨v0, e0, _⟩ := rdInt e0 u25
  obtain ⟨v1, e1, _⟩ := rdInt e1 u25
  obtain ⟨v2, e2, _⟩ := rdInt e2 u26
  obtain ⟨v3, e3, _⟩ := rdInt e3 u26
  obtain ⟨v4, e4, _⟩ := rdInt e4 u26
  obtain ⟨v5, e5⟩ := open28 e5
  obtain ⟨v6, e6, _⟩ := rdInt e6 u3
  obtain ⟨v7, e7, _⟩ := rdInt e7 u3
  obtain ⟨v8, e8, _⟩ := rdInt e8 u3
  refine ⟨⟨v0, v1, v2, v3, v4, v5, v6, v7, v8⟩, ?_⟩
  have := cut1 e0 (b := 1) rfl
  rw [List.drop_zero, cut1 e1 (b := 2) rfl, cut1 e2 (b := 3) rfl, cut1 e3 (b := 4) rfl, cut1 e4 (b := 5) rfl, cut1 e5 (b := 9) rfl, cut1 e6 (b := 10) rfl, cut1 e7 (b := 11) rfl, cut1 e8 (b := 12) rfl, List.drop_eq_nil_of_le (by omega)] at this
  rw [this]; rfl
set_option maxRecDepth 100000 in
theorem open31 {w : World} {cs : List Value} (h : Rd Tryd.prog w 32 cs) : ∃ (l : List Int) (A : Option Addr) (cap : Nat), cs = [.slice A l.length cap] ∧ l.length * 8 ≤ 140737488351232 ∧ ∀ j, j < l.length → A.isSome = true ∧ RowAt (fun _ => False) w A 1 (ints l j) j := by
  obtain ⟨A, len, cap, e, _, h1, h2, h3⟩ := h.slice u31 (sz := 1) (B := 8) (by kernel_rfl) (by kernel_rfl)
  obtain ⟨xs, hx, hall⟩ := rows_of (w := w) (A := A) (len := len) (sz := 1) (0 : Int) (fun i => [SC.val (.int .i64 i)]) (fun _ => True) (by decide) (fun _ => rfl) (fun j hj => by
    obtain ⟨_, a, cs', hA, hr, hl, hc⟩ := h3 j hj
    obtain ⟨v, hv, _⟩ := hr.int u3
    exact ⟨a, cs', hA, ⟨v, hv, trivial⟩, hl, hc⟩)
  subst hx
  exact ⟨xs, A, cap, e, h2, fun j hj => ⟨(hall j hj).1, (hall j hj).2.1⟩⟩
set_option maxRecDepth 100000 in
theorem open33 {w : World} {cs : List Value} (h : Rd Tryd.prog w 34 cs) : ∃ (c : S33) (A : Option Addr) (cap : Nat), cs = (cells33 c (sC A c.f9 cap)).map (·.den nob) ∧ c.f9.length * 8 ≤ 140737488351232 ∧ (∀ j, j < c.f9.length → A.isSome = true ∧ RowAt (fun _ => False) w A 1 (ints c.f9 j) j) ∧ I64 c.f1 ∧ I64 c.f2 := by
  obtain ⟨hl, hf⟩ := h.fields u33
  have hl : cs.length = 28 := by rw [hl]; kernel_rfl
  have e0 := hf 0 0 23 (by kernel_rfl)
  have e1 := hf 1 1 3 (by kernel_rfl)
  have e2 := hf 2 2 3 (by kernel_rfl)
  have e3 := hf 3 3 3 (by kernel_rfl)
  have e4 := hf 4 4 3 (by kernel_rfl)
  have e5 := hf 5 5 24 (by kernel_rfl)
  have e6 := hf 6 6 25 (by kernel_rfl)
  have e7 := hf 7 7 25 (by kernel_rfl)
  have e8 := hf 8 8 31 (by kernel_rfl)
  have e9 := hf 9 20 32 (by kernel_rfl)
  have e10 := hf 10 21 29 (by kernel_rfl)
  have e11 := hf 11 25 3 (by kernel_rfl)
  have e12 := hf 12 26 3 (by kernel_rfl)
  have e13 := hf 13 27 4 (by kernel_rfl)
  rw [show Tryd.prog.cellsOf 3 = 1 by kernel_rfl] at e1 e2 e3 e4 e11 e12
  rw [show Tryd.prog.cellsOf 23 = 1 by kernel_rfl] at e0
  rw [show Tryd.prog.cellsOf 24 = 1 by kernel_rfl] at e5
  rw [show Tryd.prog.cellsOf 25 = 1 by kernel_rfl] at e6 e7
  rw [show Tryd.prog.cellsOf 31 = 12 by kernel_rfl] at e8
  rw [show Tryd.prog.cellsOf 32 = 1 by kernel_rfl] at e9
  rw [show Tryd.prog.cellsOf 29 = 4 by kernel_rfl] at e10
  rw [show Tryd.prog.cellsOf 4 = 1 by kernel_rfl] at e13
  obtain ⟨v0, e0, _⟩ := rdInt e0 u22
  obtain ⟨v1, e1, w1⟩ := rdInt e1 u3
  obtain ⟨v2, e2, w2⟩ := rdInt e2 u3
  obtain ⟨v3, e3, _⟩ := rdInt e3 u3
  obtain ⟨v4, e4, _⟩ := rdInt e4 u3
  obtain ⟨v5, e5, _⟩ := rdInt e5 u23
  obtain ⟨v6, e6, _⟩ := rdInt e6 u24
  obtain ⟨v7, e7, _⟩ := rdInt e7 u24
  obtain ⟨v8, e8⟩ := open30 e8
  obtain ⟨v9, A, cap, e9, h9, hr⟩ := open31 e9
  obtain ⟨v10, e10⟩ := open28 e10
  obtain ⟨v11, e11, _⟩ := rdInt e11 u3
  obtain ⟨v12, e12, _⟩ := rdInt e12 u3
  obtain ⟨v13, e13⟩ := e13.bool u4
  refine ⟨⟨v0, v1, v2, v3, v4, v5, v6, v7, v8, v9, v10, v11, v12, v13⟩, A, cap, ?_, h9, hr, i64_of w1, i64_of w2⟩
  have := cut1 e0 (b := 1) rfl
  rw [List.drop_zero, cut1 e1 (b := 2) rfl, cut1 e2 (b := 3) rfl, cut1 e3 (b := 4) rfl, cut1 e4 (b := 5) rfl, cut1 e5 (b := 6) rfl, cut1 e6 (b := 7) rfl, cut1 e7 (b := 8) rfl, cut1 e8 (b := 20) rfl, cut1 e9 (b := 21) rfl, cut1 e10 (b := 25) rfl, cut1 e11 (b := 26) rfl, cut1 e12 (b := 27) rfl, cut1 e13 (b := 28) rfl, List.drop_eq_nil_of_le (by omega)] at this
  rw [this]
  have hA : Option.map (fun x : Addr => x.add (0 * 1)) A = A := by cases A <;> simp [Addr.add]
  simp [cells33, cells30v, SC.den, hA]
/-- A command that came in. -/
def ArgC (W : World) (v : Value) : Prop := ∃ (c : S33) (A : Option Addr) (cp : Nat), v = (cmdV c A cp).den nob ∧ c.f9.length * 8 ≤ 140737488351232 ∧ CmdX (fun _ => False) W (cmdV c A cp) c
set_option maxRecDepth 100000 in
theorem arg33 {W : World} {v : Value} {base : Nat} (hok : Value.okWide Tryd.prog W .any base 34 v) (h : Rd Tryd.prog W 34 v.cells.toList) : ArgC W v := by
  obtain ⟨cs, rfl, _⟩ := okWide_struct u33 hok
  obtain ⟨c, A, cp, e, h8, hr, _, _⟩ := open33 h
  refine ⟨c, A, cp, ?_, h8, ⟨by omega, A, cp, fun _ => rfl, hr⟩⟩
  show Value.agg cs = .agg ((cells33 c (sC A c.f9 cp)).map (·.den nob)).toArray
  rw [← e]; rfl
/-- The rows of a list of commands. -/
def RowsL (W : World) (B : Option Addr) (l : List S33) (As : Nat → Option Addr) (cs : Nat → Nat) : Prop :=
  ∀ j, j < l.length → B.isSome = true ∧ RowAt (fun _ => False) W B 28 (rowsC (fun j => l.getD j z33) As cs j) j ∧ (l.getD j z33).f9.length ≤ 9223372036854775807 ∧ ∀ i, i < (l.getD j z33).f9.length → (As j).isSome = true ∧ RowAt (fun _ => False) W (As j) 1 (ints (l.getD j z33).f9 i) i
/-- A list of commands that came in. -/
def ArgL (W : World) (v : Value) : Prop := ∃ (l : List S33) (B : Option Addr) (c : Nat) (As : Nat → Option Addr) (cs : Nat → Nat), v = (cmdsV B (fun j => l.getD j z33) As cs l.length c).den nob ∧ l.length * 240 ≤ 140737488351232 ∧ l.length ≤ c ∧ CmdsX (fun _ => False) W (cmdsV B (fun j => l.getD j z33) As cs l.length c) l ∧ RowsL W B l As cs ∧ ∀ j, j < l.length → I64 (l.getD j z33).f1 ∧ I64 (l.getD j z33).f2
set_option maxRecDepth 100000 in
theorem arg39 {W : World} {v : Value} {base : Nat} (hok : Value.okWide Tryd.prog W .any base 43 v) (h : Rd Tryd.prog W 43 v.cells.toList) : ArgL W v := by
  obtain ⟨a, len, cap, rfl⟩ := okWide_slice u39 hok
  obtain ⟨B, len', cap', e, hc, h1, h2, h3⟩ := h.slice u39 (sz := 28) (B := 240) (by kernel_rfl) (by kernel_rfl)
  have e : a = B ∧ len = len' ∧ cap = cap' := by
    have e := (List.cons.inj e).1
    injection e with e1 e2 e3
    exact ⟨e1, e2, e3⟩
  obtain ⟨rfl, rfl, rfl⟩ := e
  obtain ⟨xs, hx, hall⟩ := rows_of (w := W) (A := a) (len := len) (sz := 28) ((z33, none, 0) : S33 × Option Addr × Nat) (fun p => cells33 p.1 (sC p.2.1 p.1.f9 p.2.2)) (fun p => p.1.f9.length * 8 ≤ 140737488351232 ∧ (∀ j, j < p.1.f9.length → p.2.1.isSome = true ∧ RowAt (fun _ => False) W p.2.1 1 (ints p.1.f9 j) j) ∧ I64 p.1.f1 ∧ I64 p.1.f2) (by decide) (fun _ => rfl) (fun j hj => by
    obtain ⟨_, ad, cs', hA, hr, hl, hc⟩ := h3 j hj
    obtain ⟨c, A, cp, e, h8, hr, hi⟩ := open33 hr
    exact ⟨ad, cs', hA, ⟨(c, A, cp), e, h8, hr, hi⟩, hl, hc⟩)
  subst hx
  have hg : ∀ j, (xs.map fun p : S33 × Option Addr × Nat => p.1).getD j z33 = (xs.getD j (z33, none, 0)).1 := fun j => by
    rw [List.getD_eq_getElem?_getD, List.getD_eq_getElem?_getD, List.getElem?_map]
    cases xs[j]? <;> rfl
  have hrows : RowsL W a (xs.map fun p : S33 × Option Addr × Nat => p.1) (fun j => (xs.getD j (z33, none, 0)).2.1) (fun j => (xs.getD j (z33, none, 0)).2.2) := fun j hj => by
    obtain ⟨q1, q2, q3, q4, _⟩ := hall j (by simpa using hj)
    rw [hg j]
    refine ⟨q1, ?_, by omega, q4⟩
    show RowAt _ W a 28 (cells33 ((xs.map fun p : S33 × Option Addr × Nat => p.1).getD j z33) (sC _ ((xs.map fun p : S33 × Option Addr × Nat => p.1).getD j z33).f9 _)) j
    rw [hg j]; exact q2
  refine ⟨(xs.map fun p : S33 × Option Addr × Nat => p.1), a, cap, fun j => (xs.getD j (z33, none, 0)).2.1, fun j => (xs.getD j (z33, none, 0)).2.2, ?_, by simpa using h2, by simpa using hc, ⟨by simpa using h1, a, cap, fun j => (xs.getD j (z33, none, 0)).2.1, fun j => (xs.getD j (z33, none, 0)).2.2, fun _ => rfl, hrows⟩, hrows, fun j hj => by
    obtain ⟨_, _, _, _, q5⟩ := hall j (by simpa using hj)
    rw [hg j]; exact q5⟩
  show Value.slice a xs.length cap = .slice (a.map (·.add (0 * 28))) _ cap
  have : a.map (·.add (0 * 28)) = a := by cases a <;> simp [Addr.add]
  rw [this]; simp
set_option maxRecDepth 100000 in
theorem arg3 {W : World} {v : Value} {base : Nat} (hok : Value.okWide Tryd.prog W .any base 3 v) (h : Rd Tryd.prog W 3 v.cells.toList) : ∃ n : Int, v = .int .i64 n ∧ -9223372036854775808 ≤ n ∧ n ≤ 9223372036854775807 := by
  obtain ⟨n, rfl⟩ := okWide_int u3 hok
  obtain ⟨m, e, hw⟩ := h.int u3
  have : n = m := by
    have e := (List.cons.inj e).1
    injection e
  subst this
  refine ⟨n, rfl, ?_⟩
  simp [Lit.wf, IntKind.min, IntKind.max, IntKind.bits, IntKind.signed] at hw
  omega
def nmBytes : List (List UInt8) := nmTab.map fun s => s.data.toList
theorem gl_laid {W : World} {rest : List (String × DataW Unit)} (h : laidMet Tryd.prog (("frustum/command.names", .slice (nmBytes.map fun s => .lit (.string s)) []) :: rest) W) : Gl0 (fun _ => False) W := by
  have hg : Tryd.prog.globalNamed "frustum/command.names" = some 0 := by kernel_rfl
  obtain ⟨t, e, ht, he, hse, hce⟩ : ∃ t e, (Tryd.prog.globals[0]?).map (·.type) = some t ∧ Tryd.prog.underlying t = some (.slice e) ∧ Tryd.prog.underlying e = some .string ∧ Tryd.prog.cellsOf e = 1 := ⟨_, 9, rfl, by kernel_rfl, by kernel_rfl, by kernel_rfl⟩
  obtain ⟨a, cap, hv, hc⟩ := strs_laid hg ht he hse hce h
  have h0 : W.cell? ⟨0, 0, none⟩ = some (.slice (some a) 14 cap) := by
    have := World.var?_cell hg hv 0
    simpa [nmBytes, nmTab] using this
  refine ⟨some a, cap, ⟨⟨⟨0, 0, none⟩, rfl, World.block_lt_of_cell? _ _ h0, fun h => h, rfl, fun i c hi => ?_⟩⟩, fun j hj => ⟨rfl, ⟨⟨a, rfl, ?_, fun h => h, rfl, fun i c hi => ?_⟩⟩⟩⟩
  · cases i with
    | zero =>
      cases hi
      have e1 : (⟨0, 0, none⟩ : Addr).add (0 * 1 + 0) = ⟨0, 0, none⟩ := by simp [Addr.add]
      rw [e1, h0]
      simp [SC.den, Addr.add]
    | succ i => simp [nmRow] at hi
  · have := hc j (by simpa [nmBytes, nmTab] using hj)
    have h2 := World.block_lt_of_cell? _ _ this
    have hb : (a.add j).block = a.block := by unfold Addr.add; split <;> rfl
    rw [hb] at h2; exact h2
  · cases i with
    | zero =>
      cases hi
      rw [Nat.mul_one, Nat.add_zero, hc j (by simpa [nmBytes, nmTab] using hj)]
      show some (Value.string ⟨(nmBytes.getD j []).toArray⟩) = some (Value.string (nmTab.getD j ⟨#[63]⟩))
      have : ∀ j, j < 14 → (⟨(nmBytes.getD j []).toArray⟩ : ByteArray) = nmTab.getD j ⟨#[63]⟩ := by decide +kernel
      rw [this j hj]
    | succ i => simp [strsAt] at hi
theorem law_of {W : World} {Γ : Tab} (hΓ : TS Tryd.prog (fun _ => False) W Γ) {f : FuncId} {args : List SX} (Λ : FuncId → Nat → Option LI) (m n : Nat) (hf : f < GK) (h : evFn Tryd.prog (fun _ => False) W Γ Λ m n f args [] (fun y _ => y = bV true)) :
    Calls Tryd.prog f (fr nob args) W (fun e W' => e = .returned (.bool true) ∧ Below W.heap.size W W') := by
  refine (ev_calls hΓ Λ m n (K := fun v => v = .bool true) hf h (fun x M β hx => by rw [hx]; rfl)).mono ?_
  rintro e w' ⟨v, rfl, rfl, hb⟩
  exact ⟨rfl, hb⟩
theorem v25 : Tryd.prog.underlying 25 = some (.int .i64) := by kernel_rfl
theorem v22 : Tryd.prog.underlying 22 = some (.slice 25) := by kernel_rfl
/-- A list of states that came in. -/
def ArgI (W : World) (v : Value) : Prop := ∃ (l : List Int) (A : Option Addr) (c : Nat), v = (sV A l c).den nob ∧ l.length * 8 ≤ 140737488351232 ∧ IntsX (fun _ => False) W (sV A l c) l ∧ ∀ j, j < l.length → A.isSome = true ∧ RowAt (fun _ => False) W A 1 (ints l j) j
set_option maxRecDepth 100000 in
theorem arg22 {W : World} {v : Value} {base : Nat} (hok : Value.okWide Tryd.prog W .any base 22 v) (h : Rd Tryd.prog W 22 v.cells.toList) : ArgI W v := by
  obtain ⟨a, len, cap, rfl⟩ := okWide_slice v22 hok
  obtain ⟨A, len', cap', e, _, h1, h2, h3⟩ := h.slice v22 (sz := 1) (B := 8) (by kernel_rfl) (by kernel_rfl)
  have e : a = A ∧ len = len' ∧ cap = cap' := by
    have e := (List.cons.inj e).1
    injection e with e1 e2 e3
    exact ⟨e1, e2, e3⟩
  obtain ⟨rfl, rfl, rfl⟩ := e
  obtain ⟨xs, hx, hall⟩ := rows_of (w := W) (A := a) (len := len) (sz := 1) (0 : Int) (fun i => [SC.val (.int .i64 i)]) (fun _ => True) (by decide) (fun _ => rfl) (fun j hj => by
    obtain ⟨_, ad, cs', hA, hr, hl, hc⟩ := h3 j hj
    obtain ⟨v, hv, _⟩ := hr.int v25
    exact ⟨ad, cs', hA, ⟨v, hv, trivial⟩, hl, hc⟩)
  subst hx
  have hr : ∀ j, j < xs.length → a.isSome = true ∧ RowAt (fun _ => False) W a 1 (ints xs j) j := fun j hj => ⟨(hall j hj).1, (hall j hj).2.1⟩
  refine ⟨xs, a, cap, ?_, by omega, ⟨by omega, a, cap, fun _ => rfl, hr⟩, hr⟩
  show Value.slice a xs.length cap = .slice (a.map (·.add (0 * 1))) _ cap
  have : a.map (·.add (0 * 1)) = a := by cases a <;> simp [Addr.add]
  rw [this]
set_option maxRecDepth 100000 in
theorem arg25 {W : World} {v : Value} {base : Nat} (hok : Value.okWide Tryd.prog W .any base 25 v) (h : Rd Tryd.prog W 25 v.cells.toList) : ∃ n : Int, v = .int .i64 n ∧ -9223372036854775808 ≤ n ∧ n ≤ 9223372036854775807 := by
  obtain ⟨n, rfl⟩ := okWide_int v25 hok
  obtain ⟨m, e, hw⟩ := h.int v25
  have : n = m := by
    have e := (List.cons.inj e).1
    injection e
  subst this
  refine ⟨n, rfl, ?_⟩
  simp [Lit.wf, IntKind.min, IntKind.max, IntKind.bits, IntKind.signed] at hw
  omega
end Go.Proofs.YtomnecadhiflnaaDoor.Cm
namespace Go.Proofs.YtomnecadhiflnaaDoor.Br
open Go Go.RowKit Go.WideShapes Go.Proofs.YtomnecadhiflnaaDoor.Eng Go.Proofs.YtomnecadhiflnaaDoor.Opn Go.Proofs.YtomnecadhiflnaaDoor.Cm
set_option maxRecDepth 100000 in
theorem arg33 {W : World} {v : Value} {base : Nat} (hok : Value.okWide Tryd.prog W .any base 34 v) (h : Rd Tryd.prog W 34 v.cells.toList) : ArgC W v := Cm.arg33 hok h
set_option maxRecDepth 100000 in
theorem arg39 {W : World} {v : Value} {base : Nat} (hok : Value.okWide Tryd.prog W .any base 43 v) (h : Rd Tryd.prog W 43 v.cells.toList) : ArgL W v := Cm.arg39 hok h
set_option maxRecDepth 100000 in
theorem arg3 {W : World} {v : Value} {base : Nat} (hok : Value.okWide Tryd.prog W .any base 3 v) (h : Rd Tryd.prog W 3 v.cells.toList) : ∃ n : Int, v = .int .i64 n ∧ -9223372036854775808 ≤ n ∧ n ≤ 9223372036854775807 := Cm.arg3 hok h
set_option maxRecDepth 100000 in
theorem arg22 {W : World} {v : Value} {base : Nat} (hok : Value.okWide Tryd.prog W .any base 22 v) (h : Rd Tryd.prog W 22 v.cells.toList) : ArgI W v := Cm.arg22 hok h
set_option maxRecDepth 100000 in
theorem arg25 {W : World} {v : Value} {base : Nat} (hok : Value.okWide Tryd.prog W .any base 25 v) (h : Rd Tryd.prog W 25 v.cells.toList) : ∃ n : Int, v = .int .i64 n ∧ -9223372036854775808 ≤ n ∧ n ≤ 9223372036854775807 := Cm.arg25 hok h
end Go.Proofs.YtomnecadhiflnaaDoor.Br
