/- The laws LexerLexes and LexerWords: what their texts come to, and that it is true. -/
import Derived.Test.YtfijmdeanechfaaDoorLx24
import Derived.Test.YtfijmdeanechfaaDoorOpn
namespace Go.Proofs.YtfijmdeanechfaaDoor.Lx
open Go Go.RowKit Go.WideShapes Go.Proofs.YtfijmdeanechfaaDoor.Eng Go.Proofs.YtfijmdeanechfaaDoor.Opn
set_option linter.unusedVariables false
set_option linter.unusedSimpArgs false
theorem u9 : Tryd.prog.underlying 9 = some .string := by kernel_rfl
/-- A text that came in. -/
def ArgS (v : Value) : Prop := ∃ s : ByteArray, v = .string s ∧ s.size ≤ 140737488351232
theorem arg9 {W : World} {v : Value} {base : Nat} (hok : Value.okWide Tryd.prog W .any base 9 v) (h : Rd Tryd.prog W 9 v.cells.toList) : ArgS v := by
  obtain ⟨s, rfl⟩ := okWide_string u9 hok
  obtain ⟨s', e, hs⟩ := h.string u9
  have : s = s' := by
    have e := (List.cons.inj e).1
    injection e
  subst this
  exact ⟨s, rfl, hs⟩
theorem law_of {W : World} {Γ : Tab} (hΓ : TS Tryd.prog (fun _ => False) W Γ) {f : FuncId} {args : List SX} (Λ : FuncId → Nat → Option LI) (m n : Nat) (hf : f < GK) (h : evFn Tryd.prog (fun _ => False) W Γ Λ m n f args [] (fun y _ => y = bV true)) :
    Calls Tryd.prog f (fr nob args) W (fun e W' => e = .returned (.bool true) ∧ Below W.heap.size W W') := by
  refine (ev_calls hΓ Λ m n (K := fun v => v = .bool true) hf h (fun x M β hx => by rw [hx]; rfl)).mono ?_
  rintro e w' ⟨v, rfl, rfl, hb⟩
  exact ⟨rfl, hb⟩
/-- A package-level slice of strings, as the row lays it. -/
theorem gls_laid {W : World} {name : String} {g : Nat} {l : List ByteArray} {ss : List (List UInt8)} {rest : List (String × DataW Unit)} {t e : TypeId}
    (hg : Tryd.prog.globalNamed name = some g) (hty : (Tryd.prog.globals[g]?).map (·.type) = some t) (ht : Tryd.prog.underlying t = some (.slice e)) (he : Tryd.prog.underlying e = some .string) (hce : Tryd.prog.cellsOf e = 1)
    (hl : ss.length = l.length) (hs : ∀ j, j < l.length → (⟨(ss.getD j []).toArray⟩ : ByteArray) = l.getD j ⟨#[]⟩)
    (h : laidMet Tryd.prog ((name, .slice (ss.map fun s => .lit (.string s)) []) :: rest) W) : GlS g l (fun _ => False) W := by
  obtain ⟨a, cap, hv, hc⟩ := strs_laid hg hty ht he hce h
  have h0 : W.cell? ⟨g, 0, none⟩ = some (.slice (some a) l.length cap) := by
    have := World.var?_cell hg hv 0
    simpa [hl] using this
  refine ⟨some a, cap, ⟨⟨⟨g, 0, none⟩, rfl, World.block_lt_of_cell? _ _ h0, fun h => h, rfl, fun i c hi => ?_⟩⟩, fun j hj => ⟨rfl, ⟨⟨a, rfl, ?_, fun h => h, rfl, fun i c hi => ?_⟩⟩⟩⟩
  · cases i with
    | zero =>
      cases hi
      have e1 : (⟨g, 0, none⟩ : Addr).add (0 * 1 + 0) = ⟨g, 0, none⟩ := by simp [Addr.add]
      rw [e1, h0]
      simp [SC.den, Addr.add]
    | succ i => simp [sRow] at hi
  · have := hc j (by omega)
    have h2 := World.block_lt_of_cell? _ _ this
    have hb : (a.add j).block = a.block := by unfold Addr.add; split <;> rfl
    rw [hb] at h2; exact h2
  · cases i with
    | zero =>
      cases hi
      rw [Nat.mul_one, Nat.add_zero, hc j (by omega), hs j hj]
      rfl
    | succ i => simp [strs] at hi
theorem laid_rest {W : World} {x : String × DataW Unit} {rest : List (String × DataW Unit)} (h : laidMet Tryd.prog (x :: rest) W) : laidMet Tryd.prog rest W := by
  obtain ⟨ps, ⟨g, t, cs, fuel, p, q, _, _, _, _, hr, rfl⟩, hn, hc⟩ := h
  exact ⟨q, hr, (List.nodup_append.1 hn).2.1, fun b off hm => hc b off (List.mem_append_right _ hm)⟩
def bytesOf (l : List ByteArray) : List (List UInt8) := l.map fun s => s.data.toList
theorem sg_laid {W : World} {rest : List (String × DataW Unit)} (h : laidMet Tryd.prog (("frustum/lexer.signs", .slice ((bytesOf sgWords).map fun s => .lit (.string s)) []) :: rest) W) : GlS 2 sgWords (fun _ => False) W :=
  gls_laid (t := 48) (e := 9) (by kernel_rfl) (by kernel_rfl) (by kernel_rfl) (by kernel_rfl) (by kernel_rfl) rfl (by decide +kernel) h
theorem ty_laid {W : World} {rest : List (String × DataW Unit)} (h : laidMet Tryd.prog (("frustum/lexer.typeWords", .slice ((bytesOf tyWords).map fun s => .lit (.string s)) []) :: rest) W) : GlS 1 tyWords (fun _ => False) W :=
  gls_laid (t := 48) (e := 9) (by kernel_rfl) (by kernel_rfl) (by kernel_rfl) (by kernel_rfl) (by kernel_rfl) rfl (by decide +kernel) h
theorem ot_laid {W : World} {rest : List (String × DataW Unit)} (h : laidMet Tryd.prog (("frustum/lexer.otherWords", .slice ((bytesOf otWords).map fun s => .lit (.string s)) []) :: rest) W) : GlS 0 otWords (fun _ => False) W :=
  gls_laid (t := 48) (e := 9) (by kernel_rfl) (by kernel_rfl) (by kernel_rfl) (by kernel_rfl) (by kernel_rfl) rfl (by decide +kernel) h
theorem lexP_len (s : ByteArray) : ∀ n a l ts, (lexP s n a l ts).toks.length ≤ ts.length + n
  | 0, a, l, ts => Nat.zero_le _
  | n + 1, a, l, ts => by
    rw [lexP_step]
    have h1 := lexP_len s n (a + 1) (l + 1) ts
    have h2 := lexP_len s n (a + 1) l ts
    have h3 := lexP_len s n (runE noNl s a) l ts
    have h4 := lexP_len s n (kEnd s a) l (ts ++ [kTokL s a l])
    rw [List.length_append, List.length_singleton] at h4
    cases decide (s.size ≤ a) <;> cases bAt s (a : Int) == 10 <;> cases bAt s (a : Int) == 32 <;> cases bAt s (a : Int) == 9 <;> cases isCm s a <;> cases Nat.beq ts.length 4000 && kSt s a <;> cases kErr s a == 0 <;> simp <;> omega
theorem lexT_len (s : ByteArray) : (lexT s).toks.length ≤ s.size + 1 := by
  unfold lexT
  cases decide (16384 < s.size) with
  | true => exact Nat.zero_le _
  | false => have := lexP_len s (s.size + 1) 0 1 []; simpa using this
theorem law3 {W : World} (hG : GlS 2 sgWords (fun _ => False) W) {v : Value} (q : ArgS v) : Calls Tryd.prog 3 #[v] W (fun e W' => e = .returned (.bool true) ∧ Below W.heap.size W W') := by
  obtain ⟨s, rfl, hs⟩ := q
  have hlen := lexT_len s
  refine law_of (Γ21_ok _ W) (f := 3) (args := [tV s]) Λn 100 5 (by decide) (f3 _ W s _ ?_)
  refine cond_of (fun h => ?_) (fun h => ?_)
  · have h := of_decide_eq_true h
    have e : lexT s = ⟨[], 0, 5⟩ := by unfold lexT; rw [decide_eq_true (show 16384 < s.size by omega)]; rfl
    refine ⟨⟨by omega⟩, hG, fun _ => ?_, fun h0 => ?_⟩
    · rw [e]; exact ⟨hG, rfl⟩
    · rw [e] at h0; exact absurd h0 (show ¬ (5 : Int) = 0 by decide)
  · refine ⟨⟨by omega⟩, hG, fun h0 => ⟨⟨by omega⟩, fun _ => ?_, fun h1 => absurd h1 h0⟩, fun h0 ts ht => ⟨⟨by omega⟩, fun h1 => absurd h0 h1, fun _ ts1 ht1 => ?_⟩⟩
    · rw [beq_self_eq_true, beq_self_eq_true]; exact ⟨hG, rfl⟩
    · obtain rfl := ht.eq
      obtain rfl := ht1.eq
      exact ⟨(lexT s).toks, rfl, rfl, ⟨by omega⟩, hG, rfl⟩
theorem law6 {W : World} (hG : (GlS 1 tyWords (fun _ => False) W ∧ GlS 0 otWords (fun _ => False) W) ∧ GlS 2 sgWords (fun _ => False) W) {v : Value} (q : ArgS v) : Calls Tryd.prog 6 #[v] W (fun e W' => e = .returned (.bool true) ∧ Below W.heap.size W W') := by
  obtain ⟨s, rfl, hs⟩ := q
  refine law_of (Γ21_ok _ W) (f := 6) (args := [tV s]) Λn 100 5 (by decide) (f6 _ W s _ ?_)
  rw [beq_self_eq_true, beq_self_eq_true, beq_self_eq_true, beq_self_eq_true]
  exact ⟨hG.1, trivial, hG.1.1, trivial, hG.2, trivial, ⟨by omega⟩, ⟨by omega⟩, hG.2, rfl⟩
end Go.Proofs.YtfijmdeanechfaaDoor.Lx
