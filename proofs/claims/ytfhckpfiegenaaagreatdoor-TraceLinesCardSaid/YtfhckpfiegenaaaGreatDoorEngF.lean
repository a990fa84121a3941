/- More roads to contracts: functions that write several blocks of the memory at hand: their text is gone through from a memory of those alone. -/
import Derived.Test.YtfhckpfiegenaaaGreatDoorEngE
namespace Go.Proofs.YtfhckpfiegenaaaGreatDoor.Eng
open Go Go.RowKit
/-- The memory without some blocks. -/
def deadAt : List Nat → List Blk → List Blk
  | [], M => M
  | i :: r, M => (deadAt r M).set i .dead
def idxN (i : Nat) : Nat → List Nat → Option Nat
  | _, [] => none
  | j, x :: r => bif Nat.beq x i then some j else idxN i (j + 1) r
/-- Where the blocks lie behind the call: those that stood at their places, the new ones behind. -/
def backK (L : Nat) (is : List Nat) (n : Nat) : List KE :=
  (List.range L).map (fun i => match idxN i 0 is with | some j => KE.at_ (L + j) | none => KE.at_ i) ++ (List.range (n - is.length)).map (fun q => KE.at_ (L + is.length + q))
/-- What a caller goes on with: N are the blocks 'is' behind the call, and new ones. -/
def postK (M : List Blk) (is : List Nat) (N : List Blk) (y : SX) (k : SX → List Blk → Prop) : Prop :=
  match renM (backK M.length is N.length) (deadAt is M ++ N.map (shB M.length)), renX (backK M.length is N.length) (shX M.length y) with
  | some F, some y' => bif noDup (backK M.length is N.length) then k y' F else False
  | _, _ => False
def ownS (β : Env) (M : List Blk) (is : List Nat) (r : Nat) : Prop := ∃ i, i ∈ is ∧ ∃ a, M[i]? = some a ∧ a.real β i ∧ r = β i
def notFz : Blk → Bool
  | .fz _ => false
  | _ => true
theorem deadAt_len : ∀ (is : List Nat) (M : List Blk), (deadAt is M).length = M.length
  | [], _ => rfl
  | i :: r, M => by unfold deadAt; rw [List.length_set, deadAt_len r M]
theorem deadAt_get : ∀ (is : List Nat) (M : List Blk) (j : Nat) (a : Blk), (deadAt is M)[j]? = some a → (a = .dead ∨ M[j]? = some a) ∧ (j ∈ is → a = .dead)
  | [], _, _, _, h => ⟨.inr h, fun h => by cases h⟩
  | i :: r, M, j, a, h => by
    unfold deadAt at h
    by_cases hij : i = j
    · subst hij
      have hl : i < (deadAt r M).length := by have := get_lt h; rwa [List.length_set] at this
      rw [List.getElem?_set_self hl] at h
      cases h
      exact ⟨.inl rfl, fun _ => rfl⟩
    · rw [List.getElem?_set_ne hij] at h
      obtain ⟨h1, h2⟩ := deadAt_get r M j a h
      refine ⟨h1, fun hm => ?_⟩
      rcases List.mem_cons.1 hm with e | hm
      · exact absurd e.symm hij
      · exact h2 hm
theorem idxN_get {i : Nat} : ∀ {is : List Nat} {n j : Nat}, idxN i n is = some j → ∃ m, j = n + m ∧ is[m]? = some i
  | [], _, _, h => by cases h
  | x :: r, n, j, h => by
    unfold idxN at h
    cases hx : Nat.beq x i with
    | true =>
      rw [hx] at h
      cases h
      exact ⟨0, rfl, by rw [Nat.eq_of_beq_eq_true hx]; rfl⟩
    | false =>
      rw [hx] at h
      obtain ⟨m, e, hm⟩ := idxN_get (is := r) h
      exact ⟨m + 1, by omega, hm⟩
theorem optL_len {α γ : Type} {f : α → Option γ} : ∀ {l : List α} {r : List γ}, optL f l = some r → r.length = l.length
  | [], r, h => by cases h; rfl
  | x :: l, r, h => by
    unfold optL at h
    split at h
    · rename_i y s hy hs
      cases h
      rw [List.length_cons, List.length_cons, optL_len hs]
    · cases h
/-- Two descriptions of one block. -/
def Desc (β β0 : Env) : Blk → Blk → Prop
  | .mk e cs, .mk e' cs' => e' = e ∧ cs'.map (·.den β0) = cs.map (·.den β)
  | .lst e sz n f, .lst e' sz' n' f' => e' = e ∧ sz' = sz ∧ n' = n ∧ ∀ j, j < n → f j = f' j
  | .dead, .dead => True
  | _, _ => False
def subE (β : Env) (is : List Nat) : Env := ⟨fun j => β (is.getD j 0), fun j => β.v (is.getD j 0)⟩
theorem subE_at {β : Env} {is : List Nat} {j i : Nat} (h : is[j]? = some i) : subE β is j = β i ∧ (subE β is).v j = β.v i := by
  have e : is.getD j 0 = i := by rw [List.getD_eq_getElem?_getD, h]; rfl
  exact ⟨congrArg β.b e, congrArg β.v e⟩
/-- Some blocks of a memory, described anew, are a memory. -/
theorem Inv.sub {O : Nat → Prop} {w0 w : World} {β : Env} {M : List Blk} (hI : Inv O w0 β M w) {is : List Nat} (hd : is.Nodup) {N0 : List Blk} (hl : N0.length = is.length)
    (hb : ∀ (j i : Nat) (b : Blk), is[j]? = some i → N0[j]? = some b → ∃ a, M[i]? = some a ∧ Desc β (subE β is) a b) : Inv (ownS β M is) w (subE β is) N0 w := by
  have at_ : ∀ {j : Nat} {b : Blk}, N0[j]? = some b → ∃ i a, is[j]? = some i ∧ M[i]? = some a ∧ Desc β (subE β is) a b := fun {j b} hj => by
    have hjl : j < is.length := by rw [← hl]; exact get_lt hj
    obtain ⟨a, ha, hD⟩ := hb j _ b (List.getElem?_eq_getElem hjl) hj
    exact ⟨_, a, List.getElem?_eq_getElem hjl, ha, hD⟩
  have real : ∀ {j i : Nat} {a b : Blk}, is[j]? = some i → Desc β (subE β is) a b → b.real (subE β is) j → a.real β i := fun {j i a b} hi hD hr => by
    cases a with
    | mk => trivial
    | lst e sz n f =>
      cases b with
      | lst e' sz' n' f' =>
        unfold Blk.real at hr ⊢
        rw [(subE_at hi).2] at hr; exact hr
      | _ => exact hD.elim
    | dead =>
      cases b with
      | dead => exact hr
      | _ => exact hD.elim
    | ab => cases b <;> exact hD.elim
    | fz => cases b <;> exact hD.elim
  refine ⟨fun j e cs hj => ?_, fun j e sz n f hj => ?_, fun j q a b hj hq hr hs he => ?_, Fr.refl _ _, fun j a hj hr => ?_, fun j Q hj => ?_, fun j Q hj => ?_⟩
  · obtain ⟨i, a, hi, ha, hD⟩ := at_ hj
    cases a with
    | mk e0 cs0 =>
      obtain ⟨rfl, hc⟩ := hD
      rw [(subE_at hi).1, hI.at_ i _ _ ha, hc]
    | _ => exact hD.elim
  · obtain ⟨i, a, hi, ha, hD⟩ := at_ hj
    cases a with
    | lst e0 sz0 n0 f0 =>
      obtain ⟨rfl, rfl, rfl, hf⟩ := hD
      have := (hI.ls i _ _ _ _ ha).kept (β' := subE β is) (i' := j) (subE_at hi).1 (subE_at hi).2 (w' := w) (fun _ => rfl)
      obtain ⟨⟨xs, ho, he⟩, hblk⟩ := this
      exact ⟨⟨xs, ho, fun q hq => by rw [← hf q hq]; exact he q hq⟩, hblk⟩
    | _ => exact hD.elim
  · obtain ⟨i, a0, hi, ha, hD⟩ := at_ hj
    obtain ⟨p, b0, hp, hb0, hD2⟩ := at_ hq
    rw [(subE_at hi).1, (subE_at hp).1] at he
    have := hI.inj i p a0 b0 ha hb0 (real hi hD hr) (real hp hD2 hs) he
    subst this
    obtain ⟨hjl, e1⟩ := List.getElem?_eq_some_iff.1 hi
    obtain ⟨hql, e2⟩ := List.getElem?_eq_some_iff.1 hp
    refine Classical.byContradiction fun hne => ?_
    rcases Nat.lt_or_gt_of_ne hne with h1 | h1
    · exact List.pairwise_iff_getElem.1 hd j q hjl hql h1 (e1.trans e2.symm)
    · exact List.pairwise_iff_getElem.1 hd q j hql hjl h1 (e2.trans e1.symm)
  · obtain ⟨i, a0, hi, ha, hD⟩ := at_ hj
    exact .inr ⟨i, List.mem_of_getElem? hi, a0, ha, real hi hD hr, (subE_at hi).1⟩
  · obtain ⟨i, a0, hi, ha, hD⟩ := at_ hj
    cases a0 <;> exact hD.elim
  · obtain ⟨i, a0, hi, ha, hD⟩ := at_ hj
    cases a0 <;> exact hD.elim
/-- A function that writes some blocks of the memory at hand: its text is gone through from a memory of those alone. -/
theorem Entry.ownN {P : Program} {Γ : TabF} (hΓ : TSF P Γ) (m n : Nat) {f : FuncId} {g : EntF}
    (h : ∀ O w0 args M k, g O w0 args M k → ∀ β w, Inv O w0 β M w → ∃ is N0 args' Λ, is.Nodup ∧ N0.length = is.length ∧ (∀ (j i : Nat) (b : Blk), is[j]? = some i → N0[j]? = some b → ∃ a, M[i]? = some a ∧ Desc β (subE β is) a b) ∧ memLt N0.length N0 = true ∧ fr (subE β is) args' = fr β args ∧
      evFn P (ownS β M is) w (Γ (ownS β M is) w) Λ m n f args' N0 (fun y M' => ∃ K N1 N y1, noDup K = true ∧ pre0 0 is.length K = true ∧ renM K M' = some N1 ∧ LEq N1 N ∧ renX K y = some y1 ∧ postK M is N y1 k)) :
    ∀ O w0, EntryW P O w0 f (g O w0) := fun O w0 hf args M k hg hmlt β w hI => by
  obtain ⟨is, N0, args', Λ, hdup, hn0, hN0, hml, hfr, hev⟩ := h O w0 args M k hg β w hI
  have hI0 := hI.sub hdup hn0 hN0
  rw [← hfr]
  refine ((evFn_sound (hΓ _ w) Λ m n).1 f args' N0 _ hf hev hml _ w hI0).mono ?_
  rintro e w' ⟨y, M', β', ⟨K, N1, N, y1, hd3, hp3, hM3, hleq, hy3, hk⟩, rfl, hI', hgr, _⟩
  have hI3 := (hI'.ren hd3 hM3).leq hleq
  have hext : ∀ {j i : Nat}, is[j]? = some i → envK K β' j = β i ∧ (envK K β').v j = β.v i := fun {j i} hj => by
    have hjl : j < is.length := get_lt hj
    have h1 := Ext.ren hp3 β' j hjl
    have h2 := hgr.ext j (by rw [hn0]; exact hjl)
    have h3 := subE_at (β := β) hj
    exact ⟨h1.1.trans (h2.1.trans h3.1), h1.2.trans (h2.2.trans h3.2)⟩
  have hj := hI.joinO (Md := deadAt is M) hmlt (deadAt_len _ _) (fun j a hja => (deadAt_get is M j a hja).1) hI3 (fun r hr => by
    obtain ⟨i, hi, a, ha, hra, rfl⟩ := hr
    exact ⟨i, a, ha, hra, rfl, fun b hb => (deadAt_get is M i b hb).2 hi⟩)
  unfold postK at hk
  split at hk
  · rename_i F y2 hF hy2
    cases hdd : noDup (backK M.length is N.length) with
    | false => rw [hdd] at hk; exact hk.elim
    | true =>
      rw [hdd] at hk
      have hIF := hj.ren hdd hF
      have hlen : M.length ≤ F.length := by
        rw [optL_len hF]
        unfold backK
        rw [List.length_append, List.length_map, List.length_range]
        omega
      refine ⟨y2, F, _, hk, ?_, hIF, ⟨hlen, fun i hi => ?_⟩⟩
      · rw [renX_den _ hy2, shX_den, renX_den β' hy3]
      · cases hx : idxN i 0 is with
        | none =>
          have hK : (backK M.length is N.length)[i]? = some (.at_ i) := by
            unfold backK
            rw [List.getElem?_append_left (by rw [List.length_map, List.length_range]; exact hi), List.getElem?_map, List.getElem?_range hi]
            simp [hx]
          have h1 := envK_at (envJ M.length β (envK K β')) hK
          have h2 := envJ_lt (β := β) (β' := envK K β') hi
          exact ⟨h1.1.trans h2.1, h1.2.trans h2.2⟩
        | some j =>
          obtain ⟨q, e, hq⟩ := idxN_get hx
          have e : j = q := by omega
          subst e
          have hK : (backK M.length is N.length)[i]? = some (.at_ (M.length + j)) := by
            unfold backK
            rw [List.getElem?_append_left (by rw [List.length_map, List.length_range]; exact hi), List.getElem?_map, List.getElem?_range hi]
            simp [hx]
          have h1 := envK_at (envJ M.length β (envK K β')) hK
          have h2 := envJ_ge (d := M.length) (β := β) (β' := envK K β') j
          have h3 := hext hq
          exact ⟨h1.1.trans (h2.1.trans h3.1), h1.2.trans (h2.2.trans h3.2)⟩
  · exact hk.elim
end Go.Proofs.YtfhckpfiegenaaaGreatDoor.Eng
