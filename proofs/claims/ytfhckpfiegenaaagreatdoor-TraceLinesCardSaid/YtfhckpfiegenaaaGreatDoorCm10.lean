/- The codec's number that writes: its contract. -/
import Derived.Test.YtfhckpfiegenaaaGreatDoorCm9
namespace Go.Proofs.YtfhckpfiegenaaaGreatDoor.Tr
open Go Go.RowKit Go.Proofs.YtfhckpfiegenaaaGreatDoor.Eng Go.Proofs.YtfhckpfiegenaaaGreatDoor.Cm
set_option linter.unusedVariables false
set_option linter.unusedSimpArgs false
set_option maxRecDepth 8000
/-- The numbers that addresses point to (in other blocks than c and p). -/
def ptv (M : List Blk) (c p : Nat) : List SC → Option (List Int)
  | [] => some []
  | .ptr x o :: r => (bif Nat.beq x c || Nat.beq x p then none else match M[x]?, ptv M c p r with
    | some (.mk _ cs), some l => (match cs[o]? with
      | some (.val (.int .i64 v)) => some (v :: l)
      | _ => none)
    | _, _ => none)
  | .ep x sz j o :: r => (bif Nat.beq x c || Nat.beq x p then none else match M[x]?, ptv M c p r with
    | some (.lst _ sz' _ f), some l => (bif Nat.beq sz' sz then (match (f j)[o]? with
      | some (.val (.int .i64 v)) => some (v :: l)
      | _ => none) else none)
    | _, _ => none)
  | _ => none
def epOk (M : List Blk) : List SC → Prop
  | [] => True
  | .ep x _ j _ :: r => (match M[x]? with
    | some (.lst _ _ n _) => In (j : Int) (n : Int) ∧ epOk M r
    | _ => False)
  | _ :: r => epOk M r
structure NumC (O : Nat → Prop) (w0 : World) (m : Nat) (vs : List Int) : Prop where
  G : GlT O w0
  i : ∀ j, j < vs.length → I64 (vs.getD j 0)
  r : ∀ q, q ≤ m + vs.length → Room q 16
structure AppF (F : Nat → List SC) (m : Nat) (f : Nat → List SC) (vs : List Int) : Prop where
  at_ : ∀ j, j < m + vs.length → F j = appF f m vs j
def ids3 (c p b : Nat) : Bool := !(Nat.beq b c) && (!(Nat.beq b p) && !(Nat.beq c p))
def numPost (O : Nat → Prop) (w0 : World) (M : List Blk) (c p b : Nat) (ps : List SC) (vs : List Int) (m : Nat) (f : Nat → List SC) (a : Int) (s w : Bool) (k : SX → List Blk → Prop) : Prop :=
  bif ids3 c p b then NumC O w0 m vs ∧ epOk M ps ∧ ∀ F, AppF F m f vs → postK M [c, p] [cdB (.lst 2) a s w, .dead, .lst 9 1 (m + vs.length) F] (.tup []) k else False
def gNumW : EntF := fun O w0 args M k => match args with
  | [.v (.c (.ptr c 0)), .v (.c (.sl b 0 n cap))] =>
    (match M[c]?, M[b]? with
    | some (.mk 61 [.val (.bool false), x, .val (.int .i64 a), .val (.bool s), .val (.bool w)]), some (.mk _ ps) =>
      (bif Nat.beq n ps.length then (match x with
        | .lst p => (match M[p]?, ptv M c p ps with
          | some (.lst 9 1 m f), some vs => bif Nat.blt 0 n && Nat.ble n 4 then numPost O w0 M c p b ps vs m f a s w k else False
          | _, _ => False)
        | .sl p 0 1 1 => (match M[p]?, ptv M c p ps with
          | some (.mk 9 [.val (.string q)]), some vs => bif Nat.blt 0 n && Nat.ble n 2 then numPost O w0 M c p b ps vs 1 (fun _ => [.val (.string q)]) a s w k else False
          | _, _ => False)
        | _ => False) else False)
    | _, _ => False)
  | _ => False
--HIDE
def adr (β : Env) (x : SC) : Option Addr := match x.den β with
  | .pointer a => a
  | _ => none
structure PtOk (O : Nat → Prop) (β : Env) (w : World) (x : SC) (v : Int) : Prop where
  out : ∃ a, x.den β = .pointer (some a) ∧ a.block < w.heap.size ∧ ¬ O a.block ∧ w.cell? a = some (.int .i64 v)
theorem add0 (a : Addr) : a.add 0 = a := by unfold Addr.add; rw [if_pos rfl]
theorem notOwn {O : Nat → Prop} {w0 w : World} {β : Env} {M : List Blk} (hI : Inv O w0 β M w) {c p x : Nat} {a : Blk} (hx : M[x]? = some a) (hr : a.real β x) (h1 : x ≠ c) (h2 : x ≠ p) : ¬ ownS β M [c, p] (β x) := by
  rintro ⟨i, hi, b, hb, hrb, he⟩
  have := hI.inj x i a b hx hb hr hrb he
  simp only [List.mem_cons, List.not_mem_nil, or_false] at hi
  rcases hi with rfl | rfl
  · exact h1 this
  · exact h2 this
theorem ne_of_or {x c p : Nat} (h : (Nat.beq x c || Nat.beq x p) = false) : x ≠ c ∧ x ≠ p := by
  simp only [Bool.or_eq_false_iff] at h
  exact ⟨fun e => by subst e; simp at h, fun e => by subst e; simp at h⟩
theorem ptv_at {O : Nat → Prop} {w0 w : World} {β : Env} {M : List Blk} (hI : Inv O w0 β M w) {c p : Nat} : ∀ (ps : List SC) (vs : List Int), ptv M c p ps = some vs → epOk M ps → ps.length = vs.length ∧ ∀ j x, ps[j]? = some x → PtOk (ownS β M [c, p]) β w x (vs.getD j 0)
  | [], vs, h, _ => by cases h; exact ⟨rfl, fun j x hj => by simp at hj⟩
  | y :: r, vs, h, he => by
    have tail : ∀ {v : Int} {l : List Int}, ptv M c p r = some l → epOk M r → vs = v :: l → PtOk (ownS β M [c, p]) β w y v → (y :: r).length = vs.length ∧ ∀ j x, (y :: r)[j]? = some x → PtOk (ownS β M [c, p]) β w x (vs.getD j 0) := fun {v l} hl hr hv hy => by
      subst hv
      obtain ⟨h1, h2⟩ := ptv_at hI r l hl hr
      refine ⟨by simp [h1], fun j x hj => ?_⟩
      cases j with
      | zero => cases hj; exact hy
      | succ j => exact h2 j x (by simpa using hj)
    cases y with
    | ptr x o =>
      unfold ptv at h
      cases hb : (Nat.beq x c || Nat.beq x p) with
      | true => rw [hb] at h; cases h
      | false =>
        rw [hb] at h
        simp only [cond_false] at h
        obtain ⟨n1, n2⟩ := ne_of_or hb
        split at h
        · rename_i e cs l hx hl
          split at h
          · rename_i v hc
            cases h
            exact tail hl he rfl ⟨⟨β x, o, none⟩, rfl, hI.lt hx trivial, notOwn hI hx trivial n1 n2, hI.cell hx hc⟩
          · cases h
        · cases h
    | ep x sz jj o =>
      unfold ptv at h
      cases hb : (Nat.beq x c || Nat.beq x p) with
      | true => rw [hb] at h; cases h
      | false =>
        rw [hb] at h
        simp only [cond_false] at h
        obtain ⟨n1, n2⟩ := ne_of_or hb
        split at h
        · rename_i e sz' n f l hx hl
          cases hs : Nat.beq sz' sz with
          | false => rw [hs] at h; cases h
          | true =>
            have hs := Nat.eq_of_beq_eq_true hs
            subst hs
            rw [Nat.beq_refl] at h
            simp only [cond_true] at h
            split at h
            · rename_i v hc
              cases h
              unfold epOk at he
              rw [hx] at he
              obtain ⟨⟨_, hj⟩, he⟩ := he
              have hL := hI.ls x e sz' n f hx
              obtain ⟨a, ha, hcell⟩ := hL.cell (j := jj) (by omega) hc
              have hr : (Blk.lst e sz' n f).real β x := by show (β.v x).1.isSome = true; rw [ha]; rfl
              have hbk : (a.add (jj * sz' + o)).block = β x := by rw [show (a.add (jj * sz' + o)).block = a.block by unfold Addr.add; split <;> rfl]; exact hL.blk a ha
              refine tail hl he rfl ⟨a.add (jj * sz' + o), ?_, ?_, ?_, hcell⟩
              · show elemV (β.v x) sz' jj o = _
                unfold elemV
                rw [ha]; rfl
              · rw [hbk]; exact hI.lt hx hr
              · rw [hbk]; exact notOwn hI hx hr n1 n2
            · cases h
        · cases h
    | _ => unfold ptv at h; cases h
theorem ids_of {c p b : Nat} (h : ids3 c p b = true) : b ≠ c ∧ b ≠ p ∧ c ≠ p := by
  unfold ids3 at h
  simp only [Bool.and_eq_true, Bool.not_eq_true'] at h
  exact ⟨fun e => by subst e; simp at h, fun e => by subst e; simp at h, fun e => by subst e; simp at h⟩
theorem numH_of {O : Nat → Prop} {w0 w : World} {β : Env} {M : List Blk} (hI : Inv O w0 β M w) {c p b : Nat} {eb : TypeId} {ps : List SC} {vs : List Int} {m : Nat} (hb : M[b]? = some (.mk eb ps)) (hv : ptv M c p ps = some vs) (he : epOk M ps) (h1 : b ≠ c) (h2 : b ≠ p) (hc : NumC O w0 m vs)
    (hG : GlT (ownS β M [c, p]) w) : NumH (ownS β M [c, p]) w (some ⟨β b, 0, none⟩) (fun j => adr β (ps.getD j (.val undef))) vs m := by
  obtain ⟨hl, hp⟩ := ptv_at hI ps vs hv he
  have at_ : ∀ j, j < vs.length → ∃ a, adr β (ps.getD j (.val undef)) = some a ∧ (ps.getD j (.val undef)).den β = .pointer (some a) ∧ a.block < w.heap.size ∧ ¬ ownS β M [c, p] a.block ∧ w.cell? a = some (.int .i64 (vs.getD j 0)) := fun j hj => by
    have hj2 : j < ps.length := by omega
    have hx : ps[j]? = some (ps.getD j (.val undef)) := by rw [List.getD_eq_getElem?_getD, List.getElem?_eq_getElem hj2]; rfl
    obtain ⟨a, h3, h4, h5, h6⟩ := (hp j _ hx).out
    exact ⟨a, by unfold adr; rw [h3], h3, h4, h5, h6⟩
  refine ⟨hG, hc.i, hc.r, rfl, fun j hj => ?_, fun j hj => ?_⟩
  · obtain ⟨a, ha, hd, _⟩ := at_ j hj
    refine ⟨⟨β b, 0, none⟩, rfl, hI.lt hb trivial, notOwn hI hb trivial h1 h2, rfl, fun i x hx => ?_⟩
    have hi : i = 0 := by
      cases i with
      | zero => rfl
      | succ i => simp [ptsAt] at hx
    subst hi
    cases hx
    have hj2 : j < ps.length := by omega
    have hx2 : ps[j]? = some (ps.getD j (.val undef)) := by rw [List.getD_eq_getElem?_getD, List.getElem?_eq_getElem hj2]; rfl
    have hcell := hI.cell hb (off := j) (x := ps.getD j (.val undef)) hx2
    rw [add_plain0, Nat.mul_one, Nat.add_zero, hcell, hd]
    show some (Value.pointer (some a)) = some (Value.pointer ((adr β (ps.getD j (.val undef))).map (·.add (0 * 1 + 0))))
    rw [ha]
    show _ = some (Value.pointer (some (a.add 0)))
    rw [add0]
  · obtain ⟨a, ha, _, h4, h5, h6⟩ := at_ j hj
    refine ⟨by rw [ha]; rfl, ⟨a, ha, h4, h5, rfl, fun i x hx => ?_⟩⟩
    have hi : i = 0 := by
      cases i with
      | zero => rfl
      | succ i => simp at hx
    subst hi
    cases hx
    rw [show (0 * 1 + 0 : Nat) = 0 from rfl, add0]
    exact h6
theorem GlW.over {g : Nat} {l : List ByteArray} {O O' : Nat → Prop} {w0 w : World} (h : GlW g l O w0) (hf : Fr O w0 w) (ho : ∀ r, O' r → w0.heap.size ≤ r ∨ O r) : GlW g l O' w := by
  obtain ⟨A, cap, h1, h2⟩ := h.out
  exact ⟨A, cap, h1.over hf ho, fun j hj => ⟨(h2 j hj).1, (h2 j hj).2.over hf ho⟩⟩
theorem GlT.over {O O' : Nat → Prop} {w0 w : World} (h : GlT O w0) (hf : Fr O w0 w) (ho : ∀ r, O' r → w0.heap.size ≤ r ∨ O r) : GlT O' w := by
  refine ⟨?_, h.ix.over hf ho, h.st.over hf ho, fun w' hw' => h.lib w' ⟨hw'.os.trans hf.os, hw'.tape.trans hf.tape, hw'.output.trans hf.output, Nat.le_trans hf.size hw'.size, fun r hr hn => (hw'.block r (Nat.lt_of_lt_of_le hr hf.size) fun hr2 => ?_).trans (hf.block r hr hn)⟩⟩
  · obtain ⟨A, cap, h1, h2⟩ := h.nm.out
    exact ⟨A, cap, h1.over hf ho, fun j hj => ⟨(h2 j hj).1, (h2 j hj).2.over hf ho⟩⟩
  · rcases ho r hr2 with h3 | h3
    · omega
    · exact hn h3
theorem GlT.own {O : Nat → Prop} {w0 w : World} {β : Env} {M : List Blk} {is : List Nat} (h : GlT O w0) (hI : Inv O w0 β M w) : GlT (ownS β M is) w := h.over hI.fr fun r hr => by
  obtain ⟨i, _, a, ha, hra, rfl⟩ := hr
  exact hI.low i a ha hra
theorem Γw_ok : TSF Tryz.prog Γw := (TSF.none _).add e72
set_option maxRecDepth 100000 in
theorem e39 (O : Nat → Prop) (w0 : World) : EntryW Tryz.prog O w0 39 (gNumW O w0) :=
  Entry.ownN Γw_ok 100 5 (g := gNumW) (fun O w0 args M k hg β w hI => by
    unfold gNumW at hg
    split at hg
    case h_2 => exact hg.elim
    rename_i c b n cap
    split at hg
    case h_2 => exact hg.elim
    rename_i x a s w' eb ps hc hb
    cases hn : Nat.beq n ps.length with
    | false => rw [hn] at hg; exact hg.elim
    | true =>
    rw [hn] at hg
    simp only [cond_true] at hg
    have hn := Nat.eq_of_beq_eq_true hn
    split at hg
    · rename_i p
      split at hg
      · rename_i m f vs hp hv
        cases hlim : (Nat.blt 0 n && Nat.ble n 4) with
        | false => rw [hlim] at hg; exact hg.elim
        | true =>
          rw [hlim] at hg
          unfold numPost at hg
          cases hid : ids3 c p b with
          | false => rw [hid] at hg; exact hg.elim
          | true =>
            rw [hid] at hg
            obtain ⟨hC, he, hk⟩ := hg
            obtain ⟨h1, h2, h3⟩ := ids_of hid
            have hH := numH_of hI hb hv he h1 h2 hC (hC.G.own hI)
            have hlen : n = vs.length := by rw [hn, (ptv_at hI ps vs hv he).1]
            have hfr : fr (subE β [c, p]) [SX.v (.c (.ptr 0 0)), .v (.c (.rsl (some ⟨β b, 0, none⟩) 1 (ptsAt (fun j => adr β (ps.getD j (.val undef))) vs) 0 n cap))] = fr β [SX.v (.c (.ptr c 0)), .v (.c (.sl b 0 n cap))] := by
              show #[_, Value.slice (some (Addr.add ⟨β b, 0, none⟩ (0 * 1))) n cap] = #[_, Value.slice (some ⟨β b, 0, none⟩) n cap]
              rw [Nat.zero_mul, add0]; rfl
            have fin : ∀ n2 F, n2 = m + vs.length → (∀ j, j < n2 → F j = appF f m vs j) → ∃ K N1 N y1, noDup K = true ∧ pre0 0 [c, p].length K = true ∧ renM K [cdB (.lst 2) a s w', .dead, .lst 9 1 n2 F] = some N1 ∧ LEq N1 N ∧ renX K (SX.tup []) = some y1 ∧ postK M [c, p] N y1 k := fun n2 F e hF => by
              subst e
              exact ⟨[.at_ 0, .at_ 1, .at_ 2], _, [cdB (.lst 2) a s w', .dead, .lst 9 1 (m + vs.length) F], _, rfl, rfl, rfl, ⟨rfl, rfl, ⟨_, rfl, fun _ _ => rfl⟩, trivial⟩, rfl, hk F ⟨hF⟩⟩
            have hdesc : ∀ (j i : Nat) (bl : Blk), [c, p][j]? = some i → ([cdB (.lst 1) a s w', .lst 9 1 m f] : List Blk)[j]? = some bl → ∃ a, M[i]? = some a ∧ Desc β (subE β [c, p]) a bl := fun j i bl hj hN => by
              match j, hj, hN with
              | 0, hj, hN => cases hj; cases hN; exact ⟨_, hc, rfl, rfl⟩
              | 1, hj, hN => cases hj; cases hN; exact ⟨_, hp, rfl, rfl, rfl, fun _ _ => rfl⟩
              | j + 2, hj, hN => simp at hj
            have hl4 : 0 < n ∧ n ≤ 4 := by
              simp only [Bool.and_eq_true] at hlim
              exact ⟨by simpa using hlim.1, Nat.le_of_ble_eq_true hlim.2⟩
            have hnd : [c, p].Nodup := by simp [h3]
            rcases (show n = 1 ∨ n = 2 ∨ n = 3 ∨ n = 4 by omega) with h | h | h | h
            · subst h
              exact ⟨[c, p], _, _, _, hnd, rfl, hdesc, rfl, hfr, w39_1l hlen.symm hH (fun n2 F e hF => fin n2 F (by rw [e, hlen]) hF)⟩
            · subst h
              exact ⟨[c, p], _, _, _, hnd, rfl, hdesc, rfl, hfr, w39_2l hlen.symm hH (fun n2 F e hF => fin n2 F (by rw [e, hlen]) hF)⟩
            · subst h
              exact ⟨[c, p], _, _, _, hnd, rfl, hdesc, rfl, hfr, w39_3l hlen.symm hH (fun n2 F e hF => fin n2 F (by rw [e, hlen]) hF)⟩
            · subst h
              exact ⟨[c, p], _, _, _, hnd, rfl, hdesc, rfl, hfr, w39_4l hlen.symm hH (fun n2 F e hF => fin n2 F (by rw [e, hlen]) hF)⟩
      · exact hg.elim
    · rename_i p
      split at hg
      · rename_i q vs hp hv
        cases hlim : (Nat.blt 0 n && Nat.ble n 2) with
        | false => rw [hlim] at hg; exact hg.elim
        | true =>
          rw [hlim] at hg
          unfold numPost at hg
          cases hid : ids3 c p b with
          | false => rw [hid] at hg; exact hg.elim
          | true =>
            rw [hid] at hg
            obtain ⟨hC, he, hk⟩ := hg
            obtain ⟨h1, h2, h3⟩ := ids_of hid
            have hH := numH_of hI hb hv he h1 h2 hC (hC.G.own hI)
            have hlen : n = vs.length := by rw [hn, (ptv_at hI ps vs hv he).1]
            have hfr : fr (subE β [c, p]) [SX.v (.c (.ptr 0 0)), .v (.c (.rsl (some ⟨β b, 0, none⟩) 1 (ptsAt (fun j => adr β (ps.getD j (.val undef))) vs) 0 n cap))] = fr β [SX.v (.c (.ptr c 0)), .v (.c (.sl b 0 n cap))] := by
              show #[_, Value.slice (some (Addr.add ⟨β b, 0, none⟩ (0 * 1))) n cap] = #[_, Value.slice (some ⟨β b, 0, none⟩) n cap]
              rw [Nat.zero_mul, add0]; rfl
            have fin : ∀ n2 F, n2 = 1 + vs.length → (∀ j, j < n2 → F j = appF (fun _ => [SC.val (.string q)]) 1 vs j) → ∃ K N1 N y1, noDup K = true ∧ pre0 0 [c, p].length K = true ∧ renM K [cdB (.lst 2) a s w', .dead, .lst 9 1 n2 F] = some N1 ∧ LEq N1 N ∧ renX K (SX.tup []) = some y1 ∧ postK M [c, p] N y1 k := fun n2 F e hF => by
              subst e
              exact ⟨[.at_ 0, .at_ 1, .at_ 2], _, [cdB (.lst 2) a s w', .dead, .lst 9 1 (1 + vs.length) F], _, rfl, rfl, rfl, ⟨rfl, rfl, ⟨_, rfl, fun _ _ => rfl⟩, trivial⟩, rfl, hk F ⟨hF⟩⟩
            have hdesc : ∀ (j i : Nat) (bl : Blk), [c, p][j]? = some i → ([cdB (.sl 1 0 1 1) a s w', .mk 9 [.val (.string q)]] : List Blk)[j]? = some bl → ∃ a, M[i]? = some a ∧ Desc β (subE β [c, p]) a bl := fun j i bl hj hN => by
              match j, hj, hN with
              | 0, hj, hN => cases hj; cases hN; exact ⟨_, hc, rfl, rfl⟩
              | 1, hj, hN => cases hj; cases hN; exact ⟨_, hp, rfl, rfl⟩
              | j + 2, hj, hN => simp at hj
            have hl4 : 0 < n ∧ n ≤ 2 := by
              simp only [Bool.and_eq_true] at hlim
              exact ⟨by simpa using hlim.1, Nat.le_of_ble_eq_true hlim.2⟩
            have hnd : [c, p].Nodup := by simp [h3]
            rcases (show n = 1 ∨ n = 2 by omega) with h | h
            · subst h
              exact ⟨[c, p], _, _, _, hnd, rfl, hdesc, rfl, hfr, w39_1s hlen.symm hH (fun n2 F e hF => fin n2 F (by rw [e, hlen]) hF)⟩
            · subst h
              exact ⟨[c, p], _, _, _, hnd, rfl, hdesc, rfl, hfr, w39_2s hlen.symm hH (fun n2 F e hF => fin n2 F (by rw [e, hlen]) hF)⟩
      · exact hg.elim
    · exact hg.elim) O w0
--SHOW
end Go.Proofs.YtfhckpfiegenaaaGreatDoor.Tr
