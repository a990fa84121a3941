/- More roads to contracts: functions that return a list that they made, in whatever form. -/
import Derived.Test.YtfhckpfiegenaaaGreatDoorEng
namespace Go.Proofs.YtfhckpfiegenaaaGreatDoor.Eng
open Go Go.RowKit
/-- A block of cells that holds n elements is a list. -/
theorem Inv.ofMk {O : Nat → Prop} {w0 w : World} {β : Env} {e : TypeId} {sz n : Nat} {cs : List SC} {F : Nat → List SC} (h : Inv O w0 β [.mk e cs] w) (hn : n ≤ 9223372036854775807) (hl : cs.length = n * sz)
    (hF : ∀ j, j < n → (F j).length = sz ∧ (F j).all (·.lt 0) = true ∧ (F j).all SC.ok = true ∧ ∀ m c, (F j)[m]? = some c → cs[j * sz + m]? = some c) :
    ∃ β', Inv O w0 β' [.lst e sz n F] w ∧ (SC.lst 0).den β' = (SC.sl 0 0 n n).den β := by
  have hb := h.at_ 0 e cs rfl
  have hsz : (cs.map (·.den β)).toArray.size = n * sz := by simp [hl]
  refine ⟨⟨β.b, fun _ => (some ⟨β 0, 0, none⟩, n, n)⟩, ⟨fun i e2 cs2 hi => ?_, fun i e2 sz2 n2 f2 hi => ?_, fun i j a b hi hj _ _ _ => ?_, h.fr, fun i a hi hr => ?_, fun i Q hi => ?_, fun i Q hi => ?_⟩, rfl⟩
  · obtain ⟨_, e3⟩ := one_at hi; cases e3
  · obtain ⟨rfl, e3⟩ := one_at hi
    cases e3
    refine ⟨⟨(cs.map (·.den β)), ⟨by simp [hl], .inr ⟨β 0, n, (cs.map (·.den β)).toArray, rfl, Nat.zero_le _, hb, Nat.le_refl _, hn, hsz, ?_⟩⟩, fun j hj => ?_⟩, fun a ha => by cases ha; rfl⟩
    · show (cs.map (·.den β)).take (n * sz) = _
      rw [List.take_of_length_le (by simp [hl])]
    · obtain ⟨q1, q2, q3, q4⟩ := hF j hj
      refine ⟨q1, q2, q3, fun m c hc => ?_⟩
      rw [List.getElem?_map, q4 m c hc]
      show some (c.den β) = _
      rw [SC.den_nob (List.all_eq_true.1 q2 c (List.mem_of_getElem? hc)) β]
  · obtain ⟨rfl, _⟩ := one_at hi; obtain ⟨rfl, _⟩ := one_at hj; rfl
  · obtain ⟨rfl, e3⟩ := one_at hi
    exact h.low 0 _ rfl trivial
  · obtain ⟨_, e3⟩ := one_at hi; cases e3
  · obtain ⟨_, e3⟩ := one_at hi; cases e3
theorem Inv.ofNil {O : Nat → Prop} {w0 w : World} (hf : Fr O w0 w) (e : TypeId) (sz : Nat) (F : Nat → List SC) :
    ∃ β', Inv O w0 β' [.lst e sz 0 F] w ∧ ∀ β, (SC.lst 0).den β' = (SC.val (.slice none 0 0)).den β := by
  refine ⟨⟨fun _ => 0, fun _ => (none, 0, 0)⟩, ⟨fun i e2 cs2 hi => ?_, fun i e2 sz2 n2 f2 hi => ?_, fun i j a b hi hj _ _ _ => ?_, hf, fun i a hi hr => ?_, fun i Q hi => ?_, fun i Q hi => ?_⟩, fun _ => rfl⟩
  · obtain ⟨_, e3⟩ := one_at hi; cases e3
  · obtain ⟨rfl, e3⟩ := one_at hi
    cases e3
    exact ⟨⟨[], ⟨by simp, .inl ⟨rfl, rfl⟩⟩, fun q hq => absurd hq (Nat.not_lt_zero q)⟩, fun a ha => by cases ha⟩
  · obtain ⟨rfl, _⟩ := one_at hi; obtain ⟨rfl, _⟩ := one_at hj; rfl
  · obtain ⟨rfl, e3⟩ := one_at hi
    subst e3; cases hr
  · obtain ⟨_, e3⟩ := one_at hi; cases e3
  · obtain ⟨_, e3⟩ := one_at hi; cases e3
/-- A list, in one of the forms that a text may leave it in. -/
inductive ResL (M : List Blk) (e : TypeId) (sz n : Nat) (F : Nat → List SC) : SC → Prop
  | nil (h : n = 0) : ResL M e sz n F (.val (.slice none 0 0))
  | lst (b : Nat) (G : Nat → List SC) (hb : M[b]? = some (.lst e sz n G)) (h : ∀ j, j < n → G j = F j) : ResL M e sz n F (.lst b)
  | sub (b n0 : Nat) (G : Nat → List SC) (hb : M[b]? = some (.lst e sz n0 G)) (hn : n ≤ n0) (h : ∀ j, j < n → G j = F j) : ResL M e sz n F (.lsub b sz 0 n)
  | sl (b : Nat) (cs : List SC) (hb : M[b]? = some (.mk e cs)) (hn : n ≤ 9223372036854775807) (h0 : cs.all (·.lt 0) = true) (hl : cs.length = n * sz)
      (h : ∀ j, j < n → (F j).length = sz ∧ (F j).all (·.lt 0) = true ∧ (F j).all SC.ok = true ∧ ∀ m c, (F j)[m]? = some c → cs[j * sz + m]? = some c) : ResL M e sz n F (.sl b 0 n n)
theorem optL_id {K : List KE} : ∀ {cs : List SC}, cs.all (·.lt 0) = true → optL (renC K) cs = some cs
  | [], _ => rfl
  | c :: r, h => by
    simp only [List.all_cons, Bool.and_eq_true] at h
    have hc : renC K c = some c := by
      cases c with
      | val => rfl
      | row => rfl
      | rsl => rfl
      | opq => rfl
      | clo f caps =>
        cases caps with
        | nil => rfl
        | cons p r => simp [SC.lt] at h
      | _ => simp [SC.lt] at h
    unfold optL
    rw [hc, optL_id h.2]
theorem ResL.inv {O : Nat → Prop} {w0 w : World} {β : Env} {M : List Blk} {e : TypeId} {sz n : Nat} {F : Nat → List SC} {x : SC} (h : ResL M e sz n F x) (hI : Inv O w0 β M w) :
    ∃ β', Inv O w0 β' [.lst e sz n F] w ∧ (SC.lst 0).den β' = x.den β := by
  cases h with
  | nil h => subst h; obtain ⟨β', h1, h2⟩ := Inv.ofNil hI.fr e sz F; exact ⟨β', h1, h2 β⟩
  | lst b G hb h =>
    have hN : renM [.at_ b] M = some [.lst e sz n G] := by unfold renM optL optL renB; simp only [hb]
    have hI1 := (hI.ren (K := [.at_ b]) rfl hN).leq (N' := [.lst e sz n F]) ⟨⟨F, rfl, h⟩, trivial⟩
    exact ⟨_, hI1, rfl⟩
  | sub b n0 G hb hn h =>
    have hN : renM [.at_ b] M = some [.lst e sz n0 G] := by unfold renM optL optL renB; simp only [hb]
    obtain ⟨β2, hI2, hd, _⟩ := (hI.ren (K := [.at_ b]) rfl hN).part hn
    exact ⟨β2, hI2.leq ⟨⟨F, rfl, h⟩, trivial⟩, hd⟩
  | sl b cs hb hn h0 hl h =>
    have hN : renM [.at_ b] M = some [.mk e cs] := by unfold renM optL optL renB; simp only [hb, optL_id h0]
    obtain ⟨β2, hI2, hd⟩ := (hI.ren (K := [.at_ b]) rfl hN).ofMk hn hl h
    exact ⟨β2, hI2, hd⟩
/-- A result of which the first part is x. -/
def wrapX (r : List SC) (x : SC) : SX := match r with
  | [] => .v (.c x)
  | r => .tup (.c x :: r.map .c)
theorem wrapX_den {β β' : Env} {r : List SC} (hr : r.all (·.lt 0) = true) {x x' : SC} (h : x.den β = x'.den β') : (wrapX r x).den β = (wrapX r x').den β' := by
  have hd : ∀ c ∈ r, c.den β = c.den β' := fun c hc => by
    have := List.all_eq_true.1 hr c hc
    rw [← SC.den_nob this β, ← SC.den_nob this β']
  cases r with
  | nil => exact h
  | cons a r =>
    show Value.tuple _ = Value.tuple _
    simp only [List.map_cons, List.map_map, SV.den]
    rw [h, hd a (by simp)]
    congr 3
    congr 1
    exact List.map_congr_left fun c hc => hd c (by simp [hc])
/-- A function that makes a list (and reckons): its text is gone through from a memory of its own. -/
theorem Entry.madeQ {P : Program} {Γ : TabF} (hΓ : TSF P Γ) (m n : Nat) {f : FuncId} {g : EntF}
    (h : ∀ O w0 args M k, g O w0 args M k → ∀ β w, Inv O w0 β M w → ∃ args' Λ, fr β args' = fr β args ∧
      evFn P (fun _ => False) w (Γ (fun _ => False) w) Λ m n f args' [] (fun y M' => ∃ r x e sz n F, y = wrapX r x ∧ r.all (·.lt 0) = true ∧ ResL M' e sz n F x ∧ k (wrapX r (.lst M.length)) (M ++ [.lst e sz n F]))) :
    ∀ O w0, Entry P O w0 f (g O w0) := fun O w0 hf args M k hg hmlt β w hI => by
  obtain ⟨args', Λ, he, hev⟩ := h O w0 args M k hg β w hI
  rw [← he]
  refine ((evFn_sound (hΓ _ w) Λ m n).1 f args' [] _ hf hev rfl β w (Inv.nil w β)).mono ?_
  rintro e w' ⟨y, M', β', ⟨r, x, e0, sz, n0, F, rfl, hr, hL, hk⟩, rfl, hI', _, _⟩
  obtain ⟨β2, hI2, hd⟩ := hL.inv hI'
  refine ⟨_, _, envJ M.length β β2, hk, ?_, hI.join hmlt hI2, ⟨by simp, Ext.join _ _ _⟩, fun r hr => hI'.fr.block r hr (fun h => h)⟩
  refine congrArg _ (wrapX_den hr ?_)
  rw [← hd]
  exact (shC_den M.length β β2 (.lst 0)).symm
/-- A memory, and what a call has made of a list of it. -/
theorem Inv.joinO {O O' : Nat → Prop} {w0 w w' : World} {β β' : Env} {M Md N : List Blk} (h : Inv O w0 β M w) (hM : memLt M.length M = true) (hlen : Md.length = M.length) (hless : ∀ (j : Nat) (a : Blk), Md[j]? = some a → a = Blk.dead ∨ M[j]? = some a)
    (h' : Inv O' w β' N w') (hO : ∀ r, O' r → ∃ j a, M[j]? = some a ∧ a.real β j ∧ r = β j ∧ ∀ b, Md[j]? = some b → b = .dead) : Inv O w0 (envJ M.length β β') (Md ++ N.map (shB M.length)) w' := by
  have hd : ∀ {i : Nat} {a : Blk}, Md[i]? = some a → a.real β i → M[i]? = some a ∧ ¬ O' (β i) := fun {i a} hi hr => by
    rcases hless i a hi with rfl | hm
    · exact hr.elim
    · refine ⟨hm, fun ho => ?_⟩
      obtain ⟨j, b, hj, hrb, he, hdead⟩ := hO _ ho
      have := h.inj i j a b hm hj hr hrb he
      subst this
      rw [hdead a hi] at hr
      exact hr
  have hk : ∀ {i : Nat} {a : Blk}, Md[i]? = some a → a.real β i → w'.heap[β i]? = w.heap[β i]? := fun hi hr => h'.fr.block _ (h.lt (hd hi hr).1 hr) (hd hi hr).2
  have hlow : ∀ {j : Nat} {b : Blk}, N[j]? = some b → b.real β' j → w.heap.size ≤ β' j ∨ O' (β' j) := fun hj hr => h'.low _ _ hj hr
  have hne : ∀ {i j : Nat} {a b : Blk}, Md[i]? = some a → a.real β i → N[j]? = some b → b.real β' j → β i ≠ β' j := fun {i j a b} hi hr hj hs he => by
    rcases hlow hj hs with h1 | h1
    · have := h.lt (hd hi hr).1 hr; omega
    · rw [← he] at h1; exact (hd hi hr).2 h1
  have shmk : ∀ {d : Nat} {b : Blk} {e : TypeId} {cs : List SC}, Blk.mk e cs = shB d b → ∃ cs0, b = .mk e cs0 ∧ cs = cs0.map (shC d) := fun {d b e cs} hb => by
    cases b with
    | mk e0 cs0 => cases hb; exact ⟨cs0, rfl, rfl⟩
    | _ => cases hb
  have shls : ∀ {d : Nat} {b : Blk} {e : TypeId} {sz n : Nat} {f : Nat → List SC}, Blk.lst e sz n f = shB d b → b = .lst e sz n f := fun {d b e sz n f} hb => by
    cases b with
    | lst => cases hb; rfl
    | _ => cases hb
  have shab : ∀ {d : Nat} {b : Blk} {Q : AbQ}, Blk.ab Q = shB d b → b = .ab Q := fun {d b Q} hb => by
    cases b with
    | ab => cases hb; rfl
    | _ => cases hb
  have shfz : ∀ {d : Nat} {b : Blk} {Q : World → Prop}, Blk.fz Q = shB d b → b = .fz Q := fun {d b Q} hb => by
    cases b with
    | fz => cases hb; rfl
    | _ => cases hb
  have gj : ∀ {i : Nat} {a : Blk}, (Md ++ N.map (shB M.length))[i]? = some a → (i < M.length ∧ Md[i]? = some a) ∨ ∃ j b, i = M.length + j ∧ N[j]? = some b ∧ a = shB M.length b := fun {i a} hi => get_join hlen.symm hi
  refine ⟨fun i e cs hi => ?_, fun i e sz n f hi => ?_, fun i j a b hi hj hr hs he => ?_, ⟨h'.fr.os.trans h.fr.os, h'.fr.tape.trans h.fr.tape, h'.fr.output.trans h.fr.output, Nat.le_trans h.fr.size h'.fr.size, fun r hr ho => ?_⟩, fun i a hi hr => ?_, fun i Q hi => ?_, fun i Q hi => ?_⟩
  rotate_right
  · rcases gj hi with ⟨hlt, hi⟩ | ⟨j, b, rfl, hj, hb⟩
    · have hmi : M[i]? = some (.fz Q) := by
        rcases hless i _ hi with e2 | hm2
        · cases e2
        · exact hm2
      refine (h.fz i Q hmi).step (Nat.le_refl _) h'.fr.size fun r _ h2 h3 => ⟨h'.fr.block r h2 (fun ho => ?_), fun j a hj hr => ?_⟩
      · obtain ⟨j, b, hj, hrb, he, _⟩ := hO _ ho
        exact h3 j b hj hrb he.symm
      · rcases gj hj with ⟨hjl, hj⟩ | ⟨j, b, rfl, hj2, rfl⟩
        · rw [(envJ_lt hjl).1]
          have hr2 := (real_lt hjl).1 hr
          exact h3 j a (hd hj hr2).1 hr2
        · rw [(envJ_ge j).1]
          rcases hlow hj2 (real_sh.1 hr) with h4 | h4
          · omega
          · intro he
            obtain ⟨j3, b3, hj3, hrb3, he3, _⟩ := hO _ h4
            exact h3 j3 b3 hj3 hrb3 (he3.symm.trans he)
    · obtain rfl := shfz hb
      refine (h'.fz j Q hj).step h.fr.size (Nat.le_refl _) fun r h1 h2 h3 => ⟨rfl, fun j2 a hj2 hr => ?_⟩
      rcases gj hj2 with ⟨hjl, hj2⟩ | ⟨j2, b, rfl, hj3, rfl⟩
      · rw [(envJ_lt hjl).1]
        have hr2 := (real_lt hjl).1 hr
        have := h.lt (hd hj2 hr2).1 hr2; omega
      · rw [(envJ_ge j2).1]; exact h3 j2 b hj3 (real_sh.1 hr)
  rotate_right
  · rcases gj hi with ⟨hlt, hi⟩ | ⟨j, b, rfl, hj, hb⟩
    · rw [(envJ_lt hlt).1]
      exact (h.ab i Q (hd hi trivial).1).kept (hk hi trivial)
    · obtain rfl := shab hb
      rw [(envJ_ge j).1]; exact h'.ab j Q hj
  · rcases gj hi with ⟨hlt, hi⟩ | ⟨j, b, rfl, hj, hb⟩
    · rw [(envJ_lt hlt).1, hk hi trivial, h.at_ i e cs (hd hi trivial).1, cells_ext (Ext.join _ β β') (memLt_at hM (hd hi trivial).1)]
    · obtain ⟨cs0, rfl, rfl⟩ := shmk hb
      rw [(envJ_ge j).1, h'.at_ j e cs0 hj, List.map_map]
      have : ((fun x : SC => x.den (envJ M.length β β')) ∘ shC M.length) = fun x => x.den β' := funext (shC_den M.length β β')
      rw [this]
  · rcases gj hi with ⟨hlt, hi⟩ | ⟨j, b, rfl, hj, hb⟩
    · have hmi : M[i]? = some (.lst e sz n f) := by
        rcases hless i _ hi with e2 | hm2
        · cases e2
        · exact hm2
      exact (h.ls i e sz n f hmi).kept (envJ_lt hlt).1 (envJ_lt hlt).2 (fun hr => hk hi hr)
    · obtain rfl := shls hb
      have := h'.ls j e sz n f hj
      exact this.kept (β' := envJ M.length β β') (i' := M.length + j) (envJ_ge j).1 (envJ_ge j).2 (w' := w') (fun _ => rfl)
  · rcases gj hi with ⟨hil, hi⟩ | ⟨i, a, rfl, hi2, rfl⟩ <;> rcases gj hj with ⟨hjl, hj⟩ | ⟨j, b, rfl, hj2, rfl⟩
    · rw [real_lt hil] at hr; rw [real_lt hjl] at hs
      rw [(envJ_lt hil).1, (envJ_lt hjl).1] at he
      exact h.inj i j a b (hd hi hr).1 (hd hj hs).1 hr hs he
    · rw [real_lt hil] at hr; rw [real_sh] at hs
      rw [(envJ_lt hil).1, (envJ_ge j).1] at he
      exact absurd he (hne hi hr hj2 hs)
    · rw [real_lt hjl] at hs; rw [real_sh] at hr
      rw [(envJ_lt hjl).1, (envJ_ge i).1] at he
      exact absurd he.symm (hne hj hs hi2 hr)
    · rw [real_sh] at hr hs
      rw [(envJ_ge i).1, (envJ_ge j).1] at he
      rw [h'.inj i j a b hi2 hj2 hr hs he]
  · rw [h'.fr.block r (Nat.lt_of_lt_of_le hr h.fr.size) (fun ho2 => ?_)]
    · exact h.fr.block r hr ho
    · obtain ⟨j, b, hj, hrb, he, _⟩ := hO _ ho2
      rcases h.low j b hj hrb with h4 | h4
      · omega
      · rw [← he] at h4; exact ho h4
  · rcases gj hi with ⟨hil, hi⟩ | ⟨i, a, rfl, hi2, rfl⟩
    · rw [real_lt hil] at hr
      rw [(envJ_lt hil).1]; exact h.low i a (hd hi hr).1 hr
    · rw [real_sh] at hr
      rw [(envJ_ge i).1]
      rcases hlow hi2 hr with h4 | h4
      · exact .inl (Nat.le_trans h.fr.size h4)
      · obtain ⟨j, b, hj, hrb, he, _⟩ := hO _ h4
        rw [he]; exact h.low j b hj hrb
/-- A function that writes a list of the memory at hand and returns (a part of) it: its text is gone through from a memory of that list alone. -/
theorem Entry.ownL {P : Program} {Γ : TabF} (hΓ : TSF P Γ) (m n : Nat) {f : FuncId} {g : EntF}
    (h : ∀ O w0 args M k, g O w0 args M k → ∃ i e sz n0 F, M[i]? = some (.lst e sz n0 F) ∧ args = [SX.one (.lst i)] ∧
      ∀ O' w, Fr O w0 w → ∃ Λ, evFn P O' w (Γ O' w) Λ m n f [SX.one (.lst 0)] [.lst e sz n0 F] (fun y M' => ∃ n2 F2 x, y = SX.one x ∧ ResL M' e sz n2 F2 x ∧ k (SX.one (.lst M.length)) (M.set i .dead ++ [.lst e sz n2 F2]))) :
    ∀ O w0, EntryW P O w0 f (g O w0) := fun O w0 hf args M k hg hmlt β w hI => by
  obtain ⟨i, e0, sz, n0, F, hb, rfl, hev⟩ := h O w0 args M k hg
  have hi : i < M.length := get_lt hb
  obtain ⟨Λ, hev⟩ := hev (fun r => Blk.real β i (.lst e0 sz n0 F) ∧ r = β i) w hI.fr
  have hN : renM [.at_ i] M = some [.lst e0 sz n0 F] := by unfold renM optL optL renB; simp only [hb]
  have hI1 := hI.ren (K := [.at_ i]) rfl hN
  have hI0 : Inv (fun r => Blk.real β i (.lst e0 sz n0 F) ∧ r = β i) w (envK [.at_ i] β) [.lst e0 sz n0 F] w :=
    ⟨hI1.at_, hI1.ls, hI1.inj, Fr.refl _ _, fun j a hj hr => by
      obtain ⟨rfl, rfl⟩ := one_at hj
      exact .inr ⟨hr, rfl⟩, fun j Q hj => (by obtain ⟨_, e3⟩ := one_at hj; cases e3), fun j Q hj => (by obtain ⟨_, e3⟩ := one_at hj; cases e3)⟩
  have he : fr (envK [.at_ i] β) [SX.one (.lst 0)] = fr β [SX.one (.lst i)] := rfl
  rw [← he]
  refine ((evFn_sound (hΓ _ w) Λ m n).1 f _ _ _ hf hev rfl _ w hI0).mono ?_
  rintro e w' ⟨y, M', β', ⟨n2, F2, x, rfl, hL, hk⟩, rfl, hI', _, _⟩
  obtain ⟨β2, hI2, hd⟩ := hL.inv hI'
  have hj := hI.joinO (Md := M.set i .dead) hmlt (by simp) (fun j a hja => by
    by_cases hij : i = j
    · subst hij; rw [List.getElem?_set_self hi] at hja; cases hja; exact .inl rfl
    · rw [List.getElem?_set_ne hij] at hja; exact .inr hja) hI2 (fun r hr => ⟨i, _, hb, hr.1, hr.2, fun b hb2 => by rw [List.getElem?_set_self hi] at hb2; cases hb2; rfl⟩)
  refine ⟨_, _, envJ M.length β β2, hk, ?_, hj, ⟨by simp, Ext.join _ _ _⟩⟩
  refine congrArg _ ?_
  show x.den β' = _
  rw [← hd]
  exact (shC_den M.length β β2 (.lst 0)).symm
/-- A row that a call has made is a list. -/
theorem Inv.ofRow {w w' : World} {e : TypeId} {sz n : Nat} {v : Value} {xs : List Value} {F : Nat → List SC} (hr : w'.ownsRow w.heap.size e sz v n xs) (he : elemsOk sz n F xs) (hb : Below w.heap.size w w') :
    ∃ β', Inv (fun _ => False) w β' [.lst e sz n F] w' ∧ (SC.lst 0).den β' = v := by
  have hf : Fr (fun _ => False) w w' := ⟨hb.os, hb.tape, hb.output, hb.size, fun r hr _ => hb.block r hr⟩
  rcases hr.2 with ⟨rfl, hz⟩ | ⟨g, cap, cur, rfl, h1, h2, h3, h4, h5, h6⟩
  · subst hz
    obtain ⟨β', h1, h2⟩ := Inv.ofNil hf e sz F
    exact ⟨β', h1, h2 nob⟩
  · refine ⟨⟨fun _ => g, fun _ => (some ⟨g, 0, none⟩, n, cap)⟩, ⟨fun i e2 cs2 hi => ?_, fun i e2 sz2 n2 f2 hi => ?_, fun i j a b hi hj _ _ _ => ?_, hf, fun i a hi hr => ?_, fun i Q hi => ?_, fun i Q hi => ?_⟩, rfl⟩
    · obtain ⟨_, e3⟩ := one_at hi; cases e3
    · obtain ⟨rfl, e3⟩ := one_at hi
      cases e3
      exact ⟨⟨xs, ⟨hr.1, .inr ⟨g, cap, cur, rfl, Nat.zero_le _, h2, h3, h4, h5, h6⟩⟩, he⟩, fun a ha => by cases ha; rfl⟩
    · obtain ⟨rfl, _⟩ := one_at hi; obtain ⟨rfl, _⟩ := one_at hj; rfl
    · exact .inl h1
    · obtain ⟨_, e3⟩ := one_at hi; cases e3
    · obtain ⟨_, e3⟩ := one_at hi; cases e3
/-- A function that makes a row, by what is known of its calls. -/
theorem Entry.row {P : Program} {f : FuncId} {g : EntF}
    (h : ∀ O w0 args M k, g O w0 args M k → ∀ β w, Inv O w0 β M w → ∃ e sz n F, k (SX.one (.lst M.length)) (M ++ [.lst e sz n F]) ∧ Calls P f (fr β args) w (fun x w' => ∃ v xs, x = .returned v ∧ w'.ownsRow w.heap.size e sz v n xs ∧ elemsOk sz n F xs ∧ Below w.heap.size w w')) :
    ∀ O w0, Entry P O w0 f (g O w0) := fun O w0 hf args M k hg hmlt β w hI => by
  obtain ⟨e0, sz, n, F, hk, hc⟩ := h O w0 args M k hg β w hI
  refine hc.mono ?_
  rintro x w' ⟨v, xs, rfl, hr, he, hb⟩
  obtain ⟨β2, hI2, hd⟩ := Inv.ofRow hr he hb
  refine ⟨_, _, envJ M.length β β2, hk, ?_, hI.join hmlt hI2, ⟨by simp, Ext.join _ _ _⟩, fun r hr => hI2.fr.block r hr (fun h => h)⟩
  refine congrArg _ ?_
  rw [← hd]
  exact (shC_den M.length β β2 (.lst 0)).symm
end Go.Proofs.YtfhckpfiegenaaaGreatDoor.Eng
