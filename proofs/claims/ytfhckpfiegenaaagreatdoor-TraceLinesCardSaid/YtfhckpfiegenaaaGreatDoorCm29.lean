/- The arguments of trace's laws, out of their readings; what the package variables hold. -/
import Derived.Test.YtfhckpfiegenaaaGreatDoorCm28
import Derived.Test.YtfhckpfiegenaaaGreatDoorOpn
namespace Go.Proofs.YtfhckpfiegenaaaGreatDoor.Tr
open Go Go.RowKit Go.WideShapes Go.Proofs.YtfhckpfiegenaaaGreatDoor.Eng Go.Proofs.YtfhckpfiegenaaaGreatDoor.Opn Go.Proofs.YtfhckpfiegenaaaGreatDoor.Cm
set_option linter.unusedVariables false
theorem u33 : Tryz.prog.underlying 33 = some (.struct (fsOf Tryz.prog 33)) := by kernel_rfl
theorem u30 : Tryz.prog.underlying 30 = some (.struct (fsOf Tryz.prog 30)) := by kernel_rfl
theorem u28 : Tryz.prog.underlying 28 = some (.struct (fsOf Tryz.prog 28)) := by kernel_rfl
theorem u31 : Tryz.prog.underlying 31 = some (.slice 3) := by kernel_rfl
theorem u3 : Tryz.prog.underlying 3 = some (.int .i64) := by kernel_rfl
theorem u4 : Tryz.prog.underlying 4 = some .bool := by kernel_rfl
theorem u22 : Tryz.prog.underlying 22 = some (.int .i64) := by kernel_rfl
theorem u23 : Tryz.prog.underlying 23 = some (.int .i64) := by kernel_rfl
theorem u24 : Tryz.prog.underlying 24 = some (.int .i64) := by kernel_rfl
theorem u25 : Tryz.prog.underlying 25 = some (.int .i64) := by kernel_rfl
theorem u26 : Tryz.prog.underlying 26 = some (.int .i64) := by kernel_rfl
theorem rdInt {w : World} {t : TypeId} {cs : List Value} {off n : Nat} (h : Rd Tryz.prog w t ((cs.drop off).take n)) (ht : Tryz.prog.underlying t = some (.int .i64)) : ∃ v, (cs.drop off).take n = [.int .i64 v] ∧ (Lit.int .i64 v).wf = true := h.int ht
set_option maxRecDepth 10000 in
theorem open28 {w : World} {cs : List Value} (h : Rd Tryz.prog w 28 cs) : ∃ c : S28, cs = [.int .i64 c.f0, .int .i64 c.f1, .int .i64 c.f2, .int .i64 c.f3] := by
  obtain ⟨hl, hf⟩ := h.fields u28
  have hl : cs.length = 4 := by rw [hl]; kernel_rfl
  have e0 := hf 0 0 3 (by kernel_rfl)
  have e1 := hf 1 1 3 (by kernel_rfl)
  have e2 := hf 2 2 3 (by kernel_rfl)
  have e3 := hf 3 3 3 (by kernel_rfl)
  rw [show Tryz.prog.cellsOf 3 = 1 by kernel_rfl] at e0 e1 e2 e3
  obtain ⟨v0, e0, _⟩ := rdInt e0 u3
  obtain ⟨v1, e1, _⟩ := rdInt e1 u3
  obtain ⟨v2, e2, _⟩ := rdInt e2 u3
  obtain ⟨v3, e3, _⟩ := rdInt e3 u3
  refine ⟨⟨v0, v1, v2, v3⟩, ?_⟩
  have := cut1 e0 (b := 1) rfl
  rw [List.drop_zero, cut1 e1 (b := 2) rfl, cut1 e2 (b := 3) rfl, cut1 e3 (b := 4) rfl, List.drop_eq_nil_of_le (by omega)] at this
  rw [this]; rfl
def cells30v (c : S30) : List Value := [.int .i64 c.f0, .int .i64 c.f1, .int .i64 c.f2, .int .i64 c.f3, .int .i64 c.f4, .int .i64 c.f5.f0, .int .i64 c.f5.f1, .int .i64 c.f5.f2, .int .i64 c.f5.f3, .int .i64 c.f6, .int .i64 c.f7, .int .i64 c.f8]
set_option maxRecDepth 10000 in
theorem open30 {w : World} {cs : List Value} (h : Rd Tryz.prog w 30 cs) : ∃ c : S30, cs = cells30v c := by
  obtain ⟨hl, hf⟩ := h.fields u30
  have hl : cs.length = 12 := by rw [hl]; kernel_rfl
  have e0 := hf 0 0 25 (by kernel_rfl)
  have e1 := hf 1 1 25 (by kernel_rfl)
  have e2 := hf 2 2 26 (by kernel_rfl)
  have e3 := hf 3 3 26 (by kernel_rfl)
  have e4 := hf 4 4 26 (by kernel_rfl)
  have e5 := hf 5 5 28 (by kernel_rfl)
  have e6 := hf 6 9 3 (by kernel_rfl)
  have e7 := hf 7 10 3 (by kernel_rfl)
  have e8 := hf 8 11 3 (by kernel_rfl)
  rw [show Tryz.prog.cellsOf 3 = 1 by kernel_rfl] at e6 e7 e8
  rw [show Tryz.prog.cellsOf 25 = 1 by kernel_rfl] at e0 e1
  rw [show Tryz.prog.cellsOf 26 = 1 by kernel_rfl] at e2 e3 e4
  rw [show Tryz.prog.cellsOf 28 = 4 by kernel_rfl] at e5
  obtain ⟨v0, e0, _⟩ := rdInt e0 u25
  obtain ⟨v1, e1, _⟩ := rdInt e1 u25
  obtain ⟨v2, e2, _⟩ := rdInt e2 u26
  obtain ⟨v3, e3, _⟩ := rdInt e3 u26
  obtain ⟨v4, e4, _⟩ := rdInt e4 u26
  obtain ⟨v5, e5⟩ := open28 e5
  obtain ⟨v6, e6, _⟩ := rdInt e6 u3
  obtain ⟨v7, e7, _⟩ := rdInt e7 u3
  obtain ⟨v8, e8, _⟩ := rdInt e8 u3
  refine ⟨⟨v0, v1, v2, v3, v4, v5, v6, v7, v8⟩, ?_⟩
  have := cut1 e0 (b := 1) rfl
  rw [List.drop_zero, cut1 e1 (b := 2) rfl, cut1 e2 (b := 3) rfl, cut1 e3 (b := 4) rfl, cut1 e4 (b := 5) rfl, cut1 e5 (b := 9) rfl, cut1 e6 (b := 10) rfl, cut1 e7 (b := 11) rfl, cut1 e8 (b := 12) rfl, List.drop_eq_nil_of_le (by omega)] at this
  rw [this]; rfl
theorem open31 {w : World} {cs : List Value} (h : Rd Tryz.prog w 31 cs) : ∃ (l : List Int) (A : Option Addr) (cap : Nat), cs = [.slice A l.length cap] ∧ l.length * 8 ≤ 140737488351232 ∧ ∀ j, j < l.length → A.isSome = true ∧ RowAt (fun _ => False) w A 1 (ints l j) j := by
  obtain ⟨A, len, cap, e, _, h1, h2, h3⟩ := h.slice u31 (sz := 1) (B := 8) (by kernel_rfl) (by kernel_rfl)
  obtain ⟨xs, hx, hall⟩ := rows_of (w := w) (A := A) (len := len) (sz := 1) (0 : Int) (fun i => [SC.val (.int .i64 i)]) (fun _ => True) (by decide) (fun _ => rfl) (fun j hj => by
    obtain ⟨_, a, cs', hA, hr, hl, hc⟩ := h3 j hj
    obtain ⟨v, hv, _⟩ := hr.int u3
    exact ⟨a, cs', hA, ⟨v, hv, trivial⟩, hl, hc⟩)
  subst hx
  exact ⟨xs, A, cap, e, h2, fun j hj => ⟨(hall j hj).1, (hall j hj).2.1⟩⟩
set_option maxRecDepth 10000 in
theorem open33 {w : World} {cs : List Value} (h : Rd Tryz.prog w 33 cs) : ∃ (c : S33) (A : Option Addr) (cap : Nat), cs = (cells33 c (sC A c.f9 cap)).map (·.den nob) ∧ c.f9.length * 8 ≤ 140737488351232 ∧ ∀ j, j < c.f9.length → A.isSome = true ∧ RowAt (fun _ => False) w A 1 (ints c.f9 j) j := by
  obtain ⟨hl, hf⟩ := h.fields u33
  have hl : cs.length = 28 := by rw [hl]; kernel_rfl
  have e0 := hf 0 0 22 (by kernel_rfl)
  have e1 := hf 1 1 3 (by kernel_rfl)
  have e2 := hf 2 2 3 (by kernel_rfl)
  have e3 := hf 3 3 3 (by kernel_rfl)
  have e4 := hf 4 4 3 (by kernel_rfl)
  have e5 := hf 5 5 23 (by kernel_rfl)
  have e6 := hf 6 6 24 (by kernel_rfl)
  have e7 := hf 7 7 24 (by kernel_rfl)
  have e8 := hf 8 8 30 (by kernel_rfl)
  have e9 := hf 9 20 31 (by kernel_rfl)
  have e10 := hf 10 21 28 (by kernel_rfl)
  have e11 := hf 11 25 3 (by kernel_rfl)
  have e12 := hf 12 26 3 (by kernel_rfl)
  have e13 := hf 13 27 4 (by kernel_rfl)
  rw [show Tryz.prog.cellsOf 3 = 1 by kernel_rfl] at e1 e2 e3 e4 e11 e12
  rw [show Tryz.prog.cellsOf 22 = 1 by kernel_rfl] at e0
  rw [show Tryz.prog.cellsOf 23 = 1 by kernel_rfl] at e5
  rw [show Tryz.prog.cellsOf 24 = 1 by kernel_rfl] at e6 e7
  rw [show Tryz.prog.cellsOf 30 = 12 by kernel_rfl] at e8
  rw [show Tryz.prog.cellsOf 31 = 1 by kernel_rfl] at e9
  rw [show Tryz.prog.cellsOf 28 = 4 by kernel_rfl] at e10
  rw [show Tryz.prog.cellsOf 4 = 1 by kernel_rfl] at e13
  obtain ⟨v0, e0, _⟩ := rdInt e0 u22
  obtain ⟨v1, e1, _⟩ := rdInt e1 u3
  obtain ⟨v2, e2, _⟩ := rdInt e2 u3
  obtain ⟨v3, e3, _⟩ := rdInt e3 u3
  obtain ⟨v4, e4, _⟩ := rdInt e4 u3
  obtain ⟨v5, e5, _⟩ := rdInt e5 u23
  obtain ⟨v6, e6, _⟩ := rdInt e6 u24
  obtain ⟨v7, e7, _⟩ := rdInt e7 u24
  obtain ⟨v8, e8⟩ := open30 e8
  obtain ⟨v9, A, cap, e9, h9, hr⟩ := open31 e9
  obtain ⟨v10, e10⟩ := open28 e10
  obtain ⟨v11, e11, _⟩ := rdInt e11 u3
  obtain ⟨v12, e12, _⟩ := rdInt e12 u3
  obtain ⟨v13, e13⟩ := e13.bool u4
  refine ⟨⟨v0, v1, v2, v3, v4, v5, v6, v7, v8, v9, v10, v11, v12, v13⟩, A, cap, ?_, h9, hr⟩
  have := cut1 e0 (b := 1) rfl
  rw [List.drop_zero, cut1 e1 (b := 2) rfl, cut1 e2 (b := 3) rfl, cut1 e3 (b := 4) rfl, cut1 e4 (b := 5) rfl, cut1 e5 (b := 6) rfl, cut1 e6 (b := 7) rfl, cut1 e7 (b := 8) rfl, cut1 e8 (b := 20) rfl, cut1 e9 (b := 21) rfl, cut1 e10 (b := 25) rfl, cut1 e11 (b := 26) rfl, cut1 e12 (b := 27) rfl, cut1 e13 (b := 28) rfl, List.drop_eq_nil_of_le (by omega)] at this
  rw [this]
  have hA : Option.map (fun x : Addr => x.add (0 * 1)) A = A := by cases A <;> simp [Addr.add]
  simp [cells33, cells30v, SC.den, hA]
/-- A command that came in. -/
def ArgC (W : World) (v : Value) : Prop := ∃ (c : S33) (A : Option Addr) (cp : Nat), v = (cmdV c A cp).den nob ∧ c.f9.length * 8 ≤ 140737488351232 ∧ CmdX (fun _ => False) W (cmdV c A cp) c
set_option maxRecDepth 100000 in
theorem arg33 {W : World} {v : Value} {base : Nat} (hok : Value.okWide Tryz.prog W .any base 33 v) (h : Rd Tryz.prog W 33 v.cells.toList) : ArgC W v := by
  obtain ⟨cs, rfl, _⟩ := okWide_struct u33 hok
  obtain ⟨c, A, cp, e, h8, hr⟩ := open33 h
  refine ⟨c, A, cp, ?_, h8, ⟨by omega, A, cp, fun _ => rfl, hr⟩⟩
  show Value.agg cs = .agg ((cells33 c (sC A c.f9 cp)).map (·.den nob)).toArray
  rw [← e]; rfl
def nmBytes : List (List UInt8) := nmTab.map fun s => s.data.toList
theorem gl_laid {W : World} {rest : List (String × DataW Unit)} (h : laidMet Tryz.prog (("frustum/command.names", .slice (nmBytes.map fun s => .lit (.string s)) []) :: rest) W) : Gl0 (fun _ => False) W := by
  have hg : Tryz.prog.globalNamed "frustum/command.names" = some 0 := by kernel_rfl
  obtain ⟨t, e, ht, he, hse, hce⟩ : ∃ t e, (Tryz.prog.globals[0]?).map (·.type) = some t ∧ Tryz.prog.underlying t = some (.slice e) ∧ Tryz.prog.underlying e = some .string ∧ Tryz.prog.cellsOf e = 1 := ⟨_, 9, rfl, by kernel_rfl, by kernel_rfl, by kernel_rfl⟩
  obtain ⟨a, cap, hv, hc⟩ := strs_laid hg ht he hse hce h
  have h0 : W.cell? ⟨0, 0, none⟩ = some (.slice (some a) 14 cap) := by
    have := World.var?_cell hg hv 0
    simpa [nmBytes, nmTab] using this
  refine ⟨some a, cap, ⟨⟨⟨0, 0, none⟩, rfl, World.block_lt_of_cell? _ _ h0, fun h => h, rfl, fun i c hi => ?_⟩⟩, fun j hj => ⟨rfl, ⟨⟨a, rfl, ?_, fun h => h, rfl, fun i c hi => ?_⟩⟩⟩⟩
  · cases i with
    | zero =>
      cases hi
      have e1 : (⟨0, 0, none⟩ : Addr).add (0 * 1 + 0) = ⟨0, 0, none⟩ := by simp [Addr.add]
      rw [e1, h0]
      simp [SC.den, Addr.add]
    | succ i => simp [nmRow] at hi
  · have := hc j (by simpa [nmBytes, nmTab] using hj)
    have h2 := World.block_lt_of_cell? _ _ this
    have hb : (a.add j).block = a.block := by unfold Addr.add; split <;> rfl
    rw [hb] at h2; exact h2
  · cases i with
    | zero =>
      cases hi
      rw [Nat.mul_one, Nat.add_zero, hc j (by simpa [nmBytes, nmTab] using hj)]
      show some (Value.string ⟨(nmBytes.getD j []).toArray⟩) = some (Value.string (nmTab.getD j ⟨#[63]⟩))
      have : ∀ j, j < 14 → (⟨(nmBytes.getD j []).toArray⟩ : ByteArray) = nmTab.getD j ⟨#[63]⟩ := by decide +kernel
      rw [this j hj]
    | succ i => simp [strsAt] at hi
theorem glW_laid {W : World} {g : Nat} {name : String} {l : List ByteArray} {t : TypeId} {rest : List (String × DataW Unit)} (hg : Tryz.prog.globalNamed name = some g) (ht : (Tryz.prog.globals[g]?).map (·.type) = some t) (he : Tryz.prog.underlying t = some (.slice 9))
    (hl : ∀ j, j < l.length → (⟨((l.map fun s => s.data.toList).getD j []).toArray⟩ : ByteArray) = l.getD j ⟨#[63]⟩) (h : laidMet Tryz.prog ((name, .slice ((l.map fun s => s.data.toList).map fun s => .lit (.string s)) []) :: rest) W) : GlW g l (fun _ => False) W := by
  obtain ⟨a, cap, hv, hc⟩ := strs_laid hg ht he (by kernel_rfl) (by kernel_rfl) h
  have h0 : W.cell? ⟨g, 0, none⟩ = some (.slice (some a) l.length cap) := by
    have := World.var?_cell hg hv 0
    simpa using this
  refine ⟨some a, cap, ⟨⟨⟨g, 0, none⟩, rfl, World.block_lt_of_cell? _ _ h0, fun h => h, rfl, fun i c hi => ?_⟩⟩, fun j hj => ⟨rfl, ⟨⟨a, rfl, ?_, fun h => h, rfl, fun i c hi => ?_⟩⟩⟩⟩
  · cases i with
    | zero =>
      cases hi
      have e1 : (⟨g, 0, none⟩ : Addr).add (0 * 1 + 0) = ⟨g, 0, none⟩ := by simp [Addr.add]
      rw [e1, h0]
      simp [SC.den, Addr.add]
    | succ i => simp [tabRow] at hi
  · have := hc j (by simpa using hj)
    have h2 := World.block_lt_of_cell? _ _ this
    have hb : (a.add j).block = a.block := by unfold Addr.add; split <;> rfl
    rw [hb] at h2; exact h2
  · cases i with
    | zero =>
      cases hi
      rw [Nat.mul_one, Nat.add_zero, hc j (by simpa using hj), hl j hj]; rfl
    | succ i => simp [strsAt] at hi
theorem ix_laid {W : World} {rest : List (String × DataW Unit)} (h : laidMet Tryz.prog (("frustum/trace.indexWords", .slice ((ixTab.map fun s => s.data.toList).map fun s => .lit (.string s)) []) :: rest) W) : GlW 1 ixTab (fun _ => False) W :=
  glW_laid (t := 59) (by kernel_rfl) (by kernel_rfl) (by kernel_rfl) (by decide +kernel) h
theorem st_laid {W : World} {rest : List (String × DataW Unit)} (h : laidMet Tryz.prog (("frustum/trace.stateWords", .slice ((stTab.map fun s => s.data.toList).map fun s => .lit (.string s)) []) :: rest) W) : GlW 2 stTab (fun _ => False) W :=
  glW_laid (t := 59) (by kernel_rfl) (by kernel_rfl) (by kernel_rfl) (by decide +kernel) h
theorem glT_of {W : World} (h0 : Gl0 (fun _ => False) W) (h1 : GlW 1 ixTab (fun _ => False) W) (h2 : GlW 2 stTab (fun _ => False) W) (h3 : Gl W) : GlT (fun _ => False) W :=
  ⟨h0, h1, h2, fun w hw => h3.of ⟨hw.os, hw.tape, hw.output, hw.size, fun r hr => hw.block r hr (fun h => h)⟩⟩
theorem law_of {W : World} {Γ : Tab} (hΓ : TS Tryz.prog (fun _ => False) W Γ) {f : FuncId} {args : List SX} (Λ : FuncId → Nat → Option LI) (m n : Nat) (hf : f < GK) (h : evFn Tryz.prog (fun _ => False) W Γ Λ m n f args [] (fun y _ => y = bV true)) :
    Calls Tryz.prog f (fr nob args) W (fun e W' => e = .returned (.bool true) ∧ Below W.heap.size W W') := by
  refine (ev_calls hΓ Λ m n (K := fun v => v = .bool true) hf h (fun x M β hx => by rw [hx]; rfl)).mono ?_
  rintro e w' ⟨v, rfl, rfl, hb⟩
  exact ⟨rfl, hb⟩
set_option maxRecDepth 100000 in
theorem law3 {W : World} (hG : GlT (fun _ => False) W) {v0 : Value} (q0 : ArgC W v0) : Calls Tryz.prog 3 #[v0] W (fun e W' => e = .returned (.bool true) ∧ Below W.heap.size W W') := by
  obtain ⟨x, A, c, rfl, _, hC⟩ := q0
  exact law_of (ΓY_ok _ W) (f := 3) (args := [cmdV x A c]) Λn 100 8 (by decide) (law3e hG hC)
end Go.Proofs.YtfhckpfiegenaaaGreatDoor.Tr
