/- The law LexerTexts (for what is not too great): that it is true. -/
import Derived.Test.YtfijmdeanechfaaDoorLx34
import Derived.Test.YtfijmdeanechfaaDoorOpnB
namespace Go.Proofs.YtfijmdeanechfaaDoor.Lx
open Go Go.RowKit Go.WideShapes Go.Proofs.YtfijmdeanechfaaDoor.Eng Go.Proofs.YtfijmdeanechfaaDoor.Opn
set_option linter.unusedVariables false
set_option linter.unusedSimpArgs false
theorem u33 : Tryd.prog.underlying 33 = some (.struct (fsOf Tryd.prog 33)) := by kernel_rfl
theorem u31 : Tryd.prog.underlying 31 = some (.int .i64) := by kernel_rfl
theorem u3 : Tryd.prog.underlying 3 = some (.int .i64) := by kernel_rfl
theorem u22 : Tryd.prog.underlying 22 = some (.slice 33) := by kernel_rfl
theorem le_sum : ∀ {l : List Nat} {x : Nat}, x ∈ l → x ≤ l.sum
  | y :: l, x, h => by
    rw [List.sum_cons]
    rcases List.mem_cons.1 h with rfl | h
    · omega
    · have := le_sum h; omega
set_option maxRecDepth 10000 in
theorem open33 {w : World} {cs : List Value} {b : Nat} (h : RdB Tryd.prog w 33 cs b) : ∃ t : Tok, cs = (tokC t).map (·.den nob) ∧ t.text.size + 1 ≤ b := by
  obtain ⟨hl, bs, hb, hf⟩ := h.fields u33
  have hl : cs.length = 4 := by rw [hl]; kernel_rfl
  obtain ⟨_, _, e0⟩ := hf 0 0 31 (by kernel_rfl)
  obtain ⟨c1, hc1, e1⟩ := hf 1 1 9 (by kernel_rfl)
  obtain ⟨_, _, e2⟩ := hf 2 2 3 (by kernel_rfl)
  obtain ⟨_, _, e3⟩ := hf 3 3 3 (by kernel_rfl)
  rw [show Tryd.prog.cellsOf 31 = 1 by kernel_rfl] at e0
  rw [show Tryd.prog.cellsOf 9 = 1 by kernel_rfl] at e1
  rw [show Tryd.prog.cellsOf 3 = 1 by kernel_rfl] at e2 e3
  obtain ⟨v0, e0, _⟩ := e0.rd.int u31
  obtain ⟨v1, e1, z1⟩ := e1.string u9
  obtain ⟨v2, e2, _⟩ := e2.rd.int u3
  obtain ⟨v3, e3, _⟩ := e3.rd.int u3
  have hle : c1 ≤ bs.sum := le_sum (List.mem_of_getElem? hc1)
  refine ⟨⟨v0, v1, v2, v3⟩, ?_, by show v1.size + 1 ≤ b; omega⟩
  have := cut1 e0 (b := 1) rfl
  rw [List.drop_zero, cut1 e1 (b := 2) rfl, cut1 e2 (b := 3) rfl, cut1 e3 (b := 4) rfl, List.drop_eq_nil_of_le (by omega)] at this
  rw [this]; rfl
/-- Tokens that came in. -/
def ArgT (W : World) (v : Value) : Prop := ∃ (ts : List Tok) (A : Option Addr) (c : Nat), v = (tkV A (fun j => ts.getD j z4) ts.length c).den nob ∧ TxtW ts ∧ TokL (fun _ => False) W [] (tkV A (fun j => ts.getD j z4) ts.length c) ts
theorem wt_sum {α : Type} (f : α → Nat) (d : α) : ∀ (ts : List α) (bs : List Nat), bs.length = ts.length → (∀ j, j < ts.length → f (ts.getD j d) ≤ bs.getD j 0) → (ts.map f).sum ≤ bs.sum
  | [], bs, _, _ => Nat.zero_le _
  | t :: ts, [], h, _ => by cases h
  | t :: ts, b :: bs, h, hj => by
    have h1 := hj 0 (by simp)
    have h2 := wt_sum f d ts bs (by simpa using h) fun j hjl => hj (j + 1) (by simpa using hjl)
    have h1 : f t ≤ b := h1
    simp only [List.map_cons, List.sum_cons]; omega
theorem txs_sum : ∀ ts : List Tok, wtS (txs ts) ≤ (ts.map fun t => t.text.size + 1).sum
  | [] => Nat.zero_le _
  | t :: ts => by
    have := txs_sum ts
    unfold txs at this ⊢
    rw [List.filter_cons]
    simp only [List.map_cons, List.sum_cons]
    split
    · show t.text.size + 1 + wtS _ ≤ _; omega
    · omega
theorem arg22 {W : World} {v : Value} {base : Nat} (hok : Value.okWide Tryd.prog W .any base 22 v) (h : RdB Tryd.prog W 22 v.cells.toList 1048576) : ArgT W v := by
  obtain ⟨a, len, cap, rfl⟩ := okWide_slice u22 hok
  obtain ⟨B, len', cap', e, hc, _, hn, bs, hbl, hbs, h3⟩ := h.slice u22 (sz := 4) (B := 40) (by kernel_rfl) (by kernel_rfl)
  have e : a = B ∧ len = len' ∧ cap = cap' := by
    have e := (List.cons.inj e).1
    injection e with e1 e2 e3
    exact ⟨e1, e2, e3⟩
  obtain ⟨rfl, rfl, rfl⟩ := e
  obtain ⟨xs, hx, hall⟩ := rows_ofJ (w := W) (A := a) (len := len) (sz := 4) z4 tokC (fun j t => t.text.size + 1 ≤ bs.getD j 0) (by decide) (fun _ => rfl) (fun j hj => by
    obtain ⟨_, ad, cs', hA, hr, hl, hc⟩ := h3 j hj
    obtain ⟨t, e, hz⟩ := open33 hr
    exact ⟨ad, cs', hA, ⟨t, e, hz⟩, hl, hc⟩)
  have hw := wt_sum (fun t : Tok => t.text.size + 1) z4 xs bs (by omega) fun j hj => (hall j hj).2.2
  have hw2 := txs_sum xs
  subst hx
  refine ⟨xs, a, cap, ?_, ⟨by omega, by omega⟩, .row a cap (fun _ => rfl) fun j hj => ⟨(hall j hj).1, (hall j hj).2.1⟩⟩
  show Value.slice a xs.length cap = .slice (a.map (·.add (0 * 4))) _ cap
  have : a.map (·.add (0 * 4)) = a := by cases a <;> simp [Addr.add]
  rw [this]
theorem law7 {W : World} (hG : GlS 2 sgWords (fun _ => False) W) {v : Value} (q : ArgT W v) : Calls Tryd.prog 7 #[v] W (fun e W' => e = .returned (.bool true) ∧ Below W.heap.size W W') := by
  obtain ⟨ts, A, c, rfl, hw, hT⟩ := q
  refine law_of (Γ23_ok _ W) (f := 7) (args := [tkV A (fun j => ts.getD j z4) ts.length c]) Λn 100 5 (by decide) (f7 _ W A (fun j => ts.getD j z4) ts.length c _ ?_)
  refine ⟨ts, hT, hw, fun S hS => ⟨ts, hT, hw, fun S1 hS1 => ?_⟩⟩
  rw [hS, hS1, beq_self_eq_true]
  exact ⟨hG, rfl⟩
end Go.Proofs.YtfijmdeanechfaaDoor.Lx
