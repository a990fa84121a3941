import Derived.Test.YtfhckpfiegenaaaGreatDoorEngA
namespace Go.Proofs.YtfhckpfiegenaaaGreatDoor.Eng
open Go Go.RowKit
/-! ### code -/
def valKind : Op → Bool
  | .alloc _ => false
  | .box _ _ => false
  | .store _ _ _ => false
  | .buildSlice _ _ _ => false
  | .makeSlice _ _ _ => false
  | .makeMap _ _ => false
  | .mapUpdate _ _ _ _ => false
  | .call c => match c.callee with
    | .value _ => false
    | .builtin .append => false
    | .builtin .clear => false
    | _ => true
  | .load _ (.global _) => false
  | _ => true
def evRegion (P : Program) (O : Nat → Prop) (w0 : World) (H : Hd) (ops : Array Oper) (draw : Bool) (M : List Blk) (ts : List SX) (k : List Blk → List SX → Prop) : Prop :=
  bif draw then
    (bif P.follows .mixedOrders && Region.noSelect ops then
      (bif ops.toList.all (fun o => valKind o.op) && Region.lexB .any ops then evVals P O w0 ops.toList M ops.toList ts (fun ts' => k M ts')
      else evAny P O w0 H ops.toList (calmB H.pure ops.toList M ts) ops.toList.length [] (List.replicate ops.toList.length false).toArray M ts k)
    else False)
  else evOps P O w0 H ops.toList ops.toList M ts k
/-! ### a region in which paths meet in one truth value -/
theorem evValsL_sound {P : Program} {O : Nat → Prop} {w0 : World} {ops : List Oper} {M : List Blk} (df : List Deferred) {β : Env} {w : World} (hI : Inv O w0 β M w) {Q : Exit → Act → World → Prop} (rest2 : List Oper) : ∀ (rest : List Oper) (ts : List SX) (k : List SX → Prop),
    evVals P O w0 ops M rest ts k → (∀ ts', k ts' → (fr β ts').size = (fr β ts).size → (∀ i, (∀ o ∈ rest, o.dst ≠ some i) → (fr β ts')[i]? = (fr β ts)[i]?) → wpList P ops.toArray Q rest2 ⟨fr β ts', df⟩ w) → wpList P ops.toArray Q (rest ++ rest2) ⟨fr β ts, df⟩ w
  | [], ts, k, h, hQ => hQ ts h rfl fun _ _ => rfl
  | o :: rest, ts, k, h, hQ => by
    obtain ⟨ts', hf, hc⟩ := guardX_sound h
    rw [List.cons_append]
    rw [← hf β] at hQ ⊢
    have put : ∀ (x : SX) (ts2 : List SX), (fr β ts2).size = (fr β (putS ts' o.dst x)).size → (∀ i, (∀ p ∈ rest, p.dst ≠ some i) → (fr β ts2)[i]? = (fr β (putS ts' o.dst x))[i]?) →
        (fr β ts2).size = (fr β ts').size ∧ ∀ i, (∀ p ∈ o :: rest, p.dst ≠ some i) → (fr β ts2)[i]? = (fr β ts')[i]? := fun x ts2 h1 h2 => by
      rw [← (Act.mk.inj (fr_put β ts' df o.dst x)).1] at h1 h2
      refine ⟨h1.trans ?_, fun i hi => (h2 i fun p hp => hi p (List.mem_cons_of_mem _ hp)).trans ?_⟩
      · cases o.dst with
        | none => rfl
        | some d => simp
      · have hd := hi o (List.mem_cons_self ..)
        cases hod : o.dst with
        | none => rfl
        | some d =>
          have hne : d ≠ i := fun e => hd (by rw [hod, e])
          show ((fr β ts').setIfInBounds d _)[i]? = _
          rw [Array.getElem?_setIfInBounds_ne hne]
    unfold wpList
    rcases hc with ⟨hw, hx⟩ | ⟨hw, hx⟩
    · rw [if_pos (by rw [hf β]; exact hw β)]
      obtain ⟨x, hk, hg⟩ := valOp_sound hx β w df hI
      rw [fcX_eq, putK_eq] at hk
      refine .inl ?_
      unfold Oper.wp
      rw [hg, Oper.upon_value, fr_put]
      refine evValsL_sound df hI rest2 rest _ k hk fun ts2 h0 h1 h2 => ?_
      obtain ⟨a, b⟩ := put x ts2 h1 h2
      exact hQ ts2 h0 a b
    · rw [if_neg (by rw [hf β, hw β]; decide)]
      have e : Act.put ⟨fr β ts', df⟩ o.dst undef = ⟨fr β (putS ts' o.dst undefX), df⟩ := fr_put β ts' df o.dst undefX
      rw [e]
      rw [putK_eq] at hx
      refine evValsL_sound df hI rest2 rest _ k hx fun ts2 h0 h1 h2 => ?_
      obtain ⟨a, b⟩ := put undefX ts2 h1 h2
      exact hQ ts2 h0 a b
/-- The frame behind a place where paths meet: the slots that were written are unknown, but for one. -/
def goB (S : List Nat) (v : Nat) (b : Bool) (J : Nat → Value) : Nat → List SX → List SX
  | _, [] => []
  | t, x :: r => (bif Nat.beq t v then SX.one (.val (.bool b)) else bif S.any (fun s => Nat.beq s t) then SX.one (.opq (J t)) else x) :: goB S v b J (t + 1) r
theorem goB_den {S : List Nat} {v : Nat} {b : Bool} {J : Nat → Value} {β : Env} : ∀ (ts us : List SX) (t : Nat), us.length = ts.length →
    (∀ i x y, ts[i]? = some x → us[i]? = some y → (S.any fun s => Nat.beq s (t + i)) = false → y.den β = x.den β) → (∀ i y, us[i]? = some y → J (t + i) = y.den β) → (∀ i y, us[i]? = some y → t + i = v → y.den β = .bool b) → (goB S v b J t ts).map (·.den β) = us.map (·.den β)
  | [], us, t, hl, _, _, _ => by
    have : us = [] := List.eq_nil_of_length_eq_zero hl
    subst this; rfl
  | x :: r, us, t, hl, h1, h2, h3 => by
    cases us with
    | nil => simp at hl
    | cons y s =>
      unfold goB
      rw [List.map_cons, List.map_cons, goB_den r s (t + 1) (by simpa using hl) (fun i a c ha hc hs => h1 (i + 1) a c (by simpa using ha) (by simpa using hc) (by rw [show t + (i + 1) = t + 1 + i by omega]; exact hs)) (fun i c hc => by rw [show t + 1 + i = t + (i + 1) by omega]; exact h2 (i + 1) c (by simpa using hc)) (fun i c hc e => h3 (i + 1) c (by simpa using hc) (by omega))]
      congr 1
      cases hv : Nat.beq t v with
      | true =>
        have := Nat.eq_of_beq_eq_true hv
        rw [cond_true, h3 0 y rfl (by omega)]; rfl
      | false =>
        rw [cond_false]
        cases hs : S.any (fun s => Nat.beq s t) with
        | true => rw [cond_true]; exact h2 0 y rfl
        | false => rw [cond_false]; exact (h1 0 x y rfl rfl hs).symm
def dstS (ops : List Oper) : List Nat := ops.filterMap (·.dst)
def boolAt (ts : List SX) (v : Nat) (b : Bool) : Prop := match ts[v]? with
  | some (.v (.c (.val (.bool x)))) => x = b
  | _ => False
def evJoin (P : Program) (O : Nat → Prop) (w0 : World) (H : Hd) (ops : Array Oper) (draw : Bool) (m n v : Nat) (spec : List Blk → List SX → Option Bool) (M : List Blk) (ts : List SX) (k : List Blk → List SX → Prop) : Prop :=
  bif draw then False else
  evOps P O w0 H ops.toList (ops.toList.take m) M ts (fun M1 ts1 => match spec M1 ts1 with
    | some b => evVals P O w0 ops.toList M1 ((ops.toList.drop m).take n) ts1 (fun ts' => boolAt ts' v b) ∧ ∀ J, evOps P O w0 H ops.toList ((ops.toList.drop m).drop n) M1 (goB (dstS ((ops.toList.drop m).take n)) v b J 0 ts1) k
    | none => False)
theorem evOpsA_sound {P : Program} {O : Nat → Prop} {w0 : World} {H : Hd} (hH : HS P O w0 H) {ops : List Oper} {Q : Exit → Act → World → Prop} (df : List Deferred) (rest2 : List Oper) : ∀ (rest : List Oper) (M : List Blk) (ts : List SX) (k : List Blk → List SX → Prop),
    evOps P O w0 H ops rest M ts k → ∀ (β : Env) (w : World), Inv O w0 β M w → (∀ M' ts' β' w', k M' ts' → Inv O w0 β' M' w' → Grow M M' β β' → wpList P ops.toArray Q rest2 ⟨fr β' ts', df⟩ w') → wpList P ops.toArray Q (rest ++ rest2) ⟨fr β ts, df⟩ w
  | [], M, ts, k, h, β, w, hI, hQ => hQ M ts β w h hI (Grow.refl _ _)
  | o :: rest, M, ts, k, h, β, w, hI, hQ => by
    obtain ⟨ts', hf, hc⟩ := guardX_sound h
    rw [← hf β, List.cons_append]
    unfold wpList
    rcases hc with ⟨hw, hx⟩ | ⟨hw, hx⟩
    · rw [if_pos (by rw [hf β]; exact hw β)]
      refine .inl (evOp_sound hH hx hI df fun x M' β' w' hk hI' hg hkp _ => ?_)
      rw [fcX_eq, putK_eq] at hk
      exact evOpsA_sound hH df rest2 rest M' _ k hk β' w' hI' fun M2 ts2 β2 w2 h1 h2 h3 => hQ M2 ts2 β2 w2 h1 h2 (hg.trans h3)
    · rw [if_neg (by rw [hf β, hw β]; decide)]
      have e : Act.put ⟨fr β ts', df⟩ o.dst undef = ⟨fr β (putS ts' o.dst undefX), df⟩ := fr_put β ts' df o.dst undefX
      rw [e]
      rw [putK_eq] at hx
      exact evOpsA_sound hH df rest2 rest M _ k hx β w hI hQ
theorem evJoin_sound {P : Program} {O : Nat → Prop} {w0 : World} {H : Hd} (hH : HS P O w0 H) {id : Nat} {ops : Array Oper} {draw : Bool} {m n v : Nat} {spec : List Blk → List SX → Option Bool} {M : List Blk} {ts : List SX} {k : List Blk → List SX → Prop} (h : evJoin P O w0 H ops draw m n v spec M ts k)
    {β : Env} {w : World} (hI : Inv O w0 β M w) (df : List Deferred) {Q : Exit → Act → World → Prop}
    (hQ : ∀ M' ts' β' w', k M' ts' → Inv O w0 β' M' w' → Grow M M' β β' → Q .normal ⟨fr β' ts', df⟩ w') : (Code.region id ops draw).wp P Q ⟨fr β ts, df⟩ w := by
  unfold evJoin at h
  cases draw with
  | true => exact h.elim
  | false =>
    simp only [cond_false] at h
    refine wp_region_list ?_
    have key := evOpsA_sound hH (Q := Q) df (ops.toList.drop m) (ops.toList.take m) M ts _ h β w hI (fun M1 ts1 β1 w1 h hI1 hg1 => by
      split at h
      case h_2 => exact h.elim
      rename_i b _
      obtain ⟨h1, h2⟩ := h
      have := evValsL_sound df hI1 (Q := Q) ((ops.toList.drop m).drop n) ((ops.toList.drop m).take n) ts1 _ h1 (fun ts' hb hsz hag => by
        have hlen : ts'.length = ts1.length := by unfold fr at hsz; simpa using hsz
        have e : fr β1 ts' = fr β1 (goB (dstS ((ops.toList.drop m).take n)) v b (fun i => (ts'.getD i undefX).den β1) 0 ts1) := by
          unfold fr
          refine congrArg List.toArray (goB_den ts1 ts' 0 hlen (fun i x y hx hy hs => ?_) (fun i y hy => ?_) (fun i y hy e => ?_)).symm
          · have := hag i fun o ho e => by
              have hm : i ∈ dstS ((ops.toList.drop m).take n) := List.mem_filterMap.2 ⟨o, ho, e⟩
              have : (dstS ((ops.toList.drop m).take n)).any (fun s => Nat.beq s (0 + i)) = true := List.any_eq_true.2 ⟨i, hm, by rw [Nat.zero_add, Nat.beq_refl]⟩
              rw [this] at hs; cases hs
            rw [fr_get, fr_get, hx, hy] at this
            exact Option.some.inj this
          · rw [Nat.zero_add, List.getD_eq_getElem?_getD, hy]; rfl
          · rw [Nat.zero_add] at e
            subst e
            unfold boolAt at hb
            rw [hy] at hb
            split at hb
            · rename_i x hx
              cases Option.some.inj hx
              subst hb; rfl
            · exact hb.elim
        rw [e]
        exact evOps_sound hH (Q := Q) df _ M1 _ k (h2 _) β1 w1 hI1 (fun M' ts' β' w' a1 a2 a3 => hQ M' ts' β' w' a1 a2 (hg1.trans a3)))
      rw [List.take_append_drop] at this
      exact this)
    rw [List.take_append_drop] at key
    simpa using key
def NoP (Q : Exit → Act → World → Prop) : Exit → Act → World → Prop
  | .panic _, _, _ => False
  | e, a, w => Q e a w
theorem calmB_lt (pu : FuncId → Bool) (ops : List Oper) (M : List Blk) (ts : List SX) : ∀ b, b ∈ calmB pu ops M ts → b < M.length := fun b hb => by
  unfold calmB at hb
  split at hb
  · exact List.mem_range.1 (List.mem_filter.1 hb).1
  · cases hb
theorem evRegion_sound {P : Program} {O : Nat → Prop} {w0 : World} {H : Hd} (hH : HS P O w0 H) {id : Nat} {ops : Array Oper} {draw : Bool} {M : List Blk} {ts : List SX} {k : List Blk → List SX → Prop} (h : evRegion P O w0 H ops draw M ts k)
    {β : Env} {w : World} (hI : Inv O w0 β M w) (df : List Deferred) {Q : Exit → Act → World → Prop}
    (hQ : ∀ M' ts' β' w', k M' ts' → Inv O w0 β' M' w' → Grow M M' β β' → Q .normal ⟨fr β' ts', df⟩ w') : (Code.region id ops draw).wp P Q ⟨fr β ts, df⟩ w := by
  unfold evRegion at h
  cases draw with
  | false =>
    refine wp_region_list ?_
    have := evOps_sound hH (Q := Q) df ops.toList M ts k h β w hI hQ
    simpa using this
  | true =>
    simp only [cond_true] at h
    cases hm : (P.follows .mixedOrders && Region.noSelect ops) with
    | false => rw [hm] at h; exact h.elim
    | true =>
      rw [hm] at h
      simp only [cond_true] at h
      simp only [Bool.and_eq_true] at hm
      have hI2 := hI.drew (w.drawn + 1)
      cases hl : (ops.toList.all (fun o => valKind o.op) && Region.lexB .any ops) with
      | true =>
        rw [hl] at h
        simp only [cond_true] at h
        simp only [Bool.and_eq_true] at hl
        refine wp_region_still hm.1 hl.2 ?_
        have := evVals_sound (q := fun a' => Q .normal a' { w with drawn := w.drawn + 1 }) df hI2 ops.toList ts _ h (fun ts' hk => hQ M ts' β _ hk hI2 (Grow.refl _ _))
        simpa using this
      | false =>
        rw [hl] at h
        simp only [cond_false] at h
        refine Code.wp_mono (Q := NoP Q) (fun e a w q => by cases e <;> first | exact q | exact (q : False).elim) ?_
        refine wp_region_held (S := Calm O w0 (calmB H.pure ops.toList M ts) β { w with drawn := w.drawn + 1 }) hm.1 ?_
        have := evAny_sound hH (ops := ops.toList) (Q := NoP Q) (by simpa using hm.2) (fun c a w q => q) df β { w with drawn := w.drawn + 1 } M.length (calmB_lt _ _ _ _) _ _ _ M ts k h β _ hI2 (Nat.le_refl _) (Ext.refl _ _) ⟨hI2.fr, fun _ _ => rfl⟩ hQ
        simpa using this
/-! ### numbers anew: what of the memory is kept behind a loop's head, and under which number -/
/-- A block that is kept; a list that is none yet (the slot that holds nil). -/
inductive KE where
  | at_ (i : Nat)
  | nil (e : TypeId) (sz slot : Nat)
  | all (is : List Nat)
def KE.is (i : Nat) : KE → Bool
  | .at_ j => Nat.beq i j
  | _ => false
def idxK (p : KE → Bool) : Nat → List KE → Option Nat
  | _, [] => none
  | n, x :: r => bif p x then some n else idxK p (n + 1) r
def rho (K : List KE) (i : Nat) : Option Nat := idxK (KE.is i) 0 K
def capsR (K : List KE) : List (Nat × Nat) → Option (List (Nat × Nat))
  | [] => some []
  | p :: r => match rho K p.1, capsR K r with
    | some j, some l => some ((j, p.2) :: l)
    | _, _ => none
def renC (K : List KE) : SC → Option SC
  | .ptr b off => (match rho K b with | some j => some (.ptr j off) | none => none)
  | .sl b off len cap => (match rho K b with | some j => some (.sl j off len cap) | none => none)
  | .clo f caps => (match capsR K caps with | some c => some (.clo f c) | none => none)
  | .lst b => (match rho K b with | some j => some (.lst j) | none => none)
  | .lsub b sz lo n => (match rho K b with | some j => some (.lsub j sz lo n) | none => none)
  | .ep b sz i off => (match rho K b with | some j => some (.ep j sz i off) | none => none)
  | .mpv b => (match rho K b with | some j => some (.mpv j) | none => none)
  | x => some x
def optL {α γ : Type} (f : α → Option γ) : List α → Option (List γ)
  | [] => some []
  | x :: r => match f x, optL f r with
    | some y, some l => some (y :: l)
    | _, _ => none
def renS (K : List KE) : SV → Option SV
  | .c x => (match renC K x with | some y => some (.c y) | none => none)
  | .agg cs => (match optL (renC K) cs with | some l => some (.agg l) | none => none)
def renX (K : List KE) : SX → Option SX
  | .v x => (match renS K x with | some y => some (.v y) | none => none)
  | .tup vs => (match optL (renS K) vs with | some l => some (.tup l) | none => none)
/-- What is known of blocks without a number, together. -/
def fzAll (M : List Blk) : List Nat → Option (World → Prop)
  | [] => some (fun _ => True)
  | i :: r => match M[i]?, fzAll M r with
    | some (Blk.fz Q), some R => some (fun w => Q w ∧ R w)
    | _, _ => none
def renB (K : List KE) (M : List Blk) : KE → Option Blk
  | .at_ i => (match M[i]? with
    | some (.mk e cs) => (match optL (renC K) cs with | some l => some (.mk e l) | none => none)
    | some (.lst e sz n f) => some (.lst e sz n f)
    | some .dead => some .dead
    | some (Blk.ab Q) => some (Blk.ab Q)
    | some (Blk.fz Q) => some (Blk.fz Q)
    | none => none)
  | .nil e sz _ => some (.lst e sz 0 (fun _ => []))
  | .all is => (match fzAll M is with
    | some Q => some (Blk.fz Q)
    | none => none)
def renM (K : List KE) (M : List Blk) : Option (List Blk) := optL (renB K M) K
def keB (K : List KE) (β : Env) (j : Nat) : Nat := match K[j]? with
  | some (.at_ i) => β i
  | _ => 0
def keV (K : List KE) (β : Env) (j : Nat) : Option Addr × Nat × Nat := match K[j]? with
  | some (.at_ i) => β.v i
  | _ => (none, 0, 0)
def envK (K : List KE) (β : Env) : Env := ⟨keB K β, keV K β⟩
def noDup : List KE → Bool
  | [] => true
  | .at_ i :: r => !(r.any (KE.is i)) && noDup r
  | _ :: r => noDup r
def pre0 : Nat → Nat → List KE → Bool
  | _, 0, _ => true
  | a, n + 1, .at_ i :: r => Nat.beq i a && pre0 (a + 1) n r
  | _, _, _ => false
theorem idxK_sound {p : KE → Bool} : ∀ {l : List KE} {n j : Nat}, idxK p n l = some j → ∃ m x, j = n + m ∧ l[m]? = some x ∧ p x = true
  | [], _, _, h => by cases h
  | x :: r, n, j, h => by
    unfold idxK at h
    cases hx : p x with
    | true => rw [hx] at h; cases h; exact ⟨0, x, rfl, rfl, hx⟩
    | false =>
      rw [hx] at h
      obtain ⟨m, y, e, hm, hy⟩ := idxK_sound h
      exact ⟨m + 1, y, by omega, hm, hy⟩
theorem KE.is_of {i : Nat} {x : KE} (h : KE.is i x = true) : x = .at_ i := by
  cases x with
  | at_ j => rw [Nat.eq_of_beq_eq_true h]
  | nil => cases h
  | all => cases h
theorem rho_at {K : List KE} {i j : Nat} (h : rho K i = some j) : K[j]? = some (.at_ i) := by
  obtain ⟨m, x, e, hm, hx⟩ := idxK_sound h
  rw [Nat.zero_add] at e
  subst e
  rw [hm, KE.is_of hx]
theorem rho_b {K : List KE} {i j : Nat} (β : Env) (h : rho K i = some j) : envK K β j = β i ∧ (envK K β).v j = β.v i := by
  have := rho_at h
  constructor
  · show keB K β j = _; unfold keB; rw [this]
  · show keV K β j = _; unfold keV; rw [this]
theorem capsR_den {K : List KE} (β : Env) : ∀ {l c : List (Nat × Nat)}, capsR K l = some c → (c.map fun p => Value.pointer (some ⟨envK K β p.1, p.2, none⟩)) = l.map fun p => Value.pointer (some ⟨β p.1, p.2, none⟩)
  | [], c, h => by cases h; rfl
  | p :: r, c, h => by
    unfold capsR at h
    split at h
    · rename_i j l hj hl
      cases h
      simp only [List.map_cons, (rho_b β hj).1, capsR_den β hl]
    · cases h
theorem renC_den {K : List KE} (β : Env) {x y : SC} (h : renC K x = some y) : y.den (envK K β) = x.den β := by
  cases x with
  | val v => cases h; rfl
  | row => cases h; rfl
  | rsl => cases h; rfl
  | opq => cases h; rfl
  | ptr b off =>
    simp only [renC] at h
    split at h
    · rename_i j hj; cases h; simp only [SC.den, (rho_b β hj).1]
    · cases h
  | sl b off len cap =>
    simp only [renC] at h
    split at h
    · rename_i j hj; cases h; simp only [SC.den, (rho_b β hj).1]
    · cases h
  | lst b =>
    simp only [renC] at h
    split at h
    · rename_i j hj; cases h; simp only [SC.den, Env.sv, (rho_b β hj).2]
    · cases h
  | lsub b sz lo n =>
    simp only [renC] at h
    split at h
    · rename_i j hj; cases h; simp only [SC.den, (rho_b β hj).2]
    · cases h
  | ep b sz i off =>
    simp only [renC] at h
    split at h
    · rename_i j hj; cases h; simp only [SC.den, (rho_b β hj).2]
    · cases h
  | mpv b =>
    simp only [renC] at h
    split at h
    · rename_i j hj; cases h; simp only [SC.den, (rho_b β hj).1]
    · cases h
  | clo f caps =>
    simp only [renC] at h
    split at h
    · rename_i c hc; cases h; simp only [SC.den, capsR_den β hc]
    · cases h
theorem optL_map {α γ δ : Type} {f : α → Option γ} {g : α → δ} {g' : γ → δ} (hf : ∀ x y, f x = some y → g' y = g x) : ∀ {l : List α} {r : List γ}, optL f l = some r → r.map g' = l.map g
  | [], r, h => by cases h; rfl
  | x :: l, r, h => by
    unfold optL at h
    split at h
    · rename_i y l2 hy hl
      cases h
      simp only [List.map_cons, hf x y hy, optL_map hf hl]
    · cases h
theorem optL_at {α γ : Type} {f : α → Option γ} : ∀ {l : List α} {r : List γ}, optL f l = some r → ∀ {j : Nat} {y : γ}, r[j]? = some y → ∃ x, l[j]? = some x ∧ f x = some y
  | [], r, h, j, y, hj => by cases h; simp at hj
  | x :: l, r, h, j, y, hj => by
    unfold optL at h
    split at h
    · rename_i y2 l2 hy hl
      cases h
      cases j with
      | zero => simp at hj; subst hj; exact ⟨x, rfl, hy⟩
      | succ j => exact optL_at hl (j := j) (by simpa using hj)
    · cases h
theorem renS_den {K : List KE} (β : Env) {x y : SV} (h : renS K x = some y) : y.den (envK K β) = x.den β := by
  cases x with
  | c x =>
    simp only [renS] at h
    split at h
    · rename_i z hz; cases h; exact renC_den β hz
    · cases h
  | agg cs =>
    simp only [renS] at h
    split at h
    · rename_i l hl; cases h; simp only [SV.den, optL_map (fun x y hxy => renC_den β hxy) hl]
    · cases h
theorem renX_den {K : List KE} (β : Env) {x y : SX} (h : renX K x = some y) : y.den (envK K β) = x.den β := by
  cases x with
  | v x =>
    simp only [renX] at h
    split at h
    · rename_i z hz; cases h; exact renS_den β hz
    · cases h
  | tup vs =>
    simp only [renX] at h
    split at h
    · rename_i l hl; cases h; simp only [SX.den, optL_map (fun x y hxy => renS_den β hxy) hl]
    · cases h
theorem noDup_at : ∀ {K : List KE}, noDup K = true → ∀ {i a b : Nat}, K[a]? = some (.at_ i) → K[b]? = some (.at_ i) → a = b
  | [], _, _, _, _, ha, _ => by simp at ha
  | k :: r, h, i, a, b, ha, hb => by
    have hr : noDup r = true := by
      cases k with
      | at_ j => simp only [noDup, Bool.and_eq_true] at h; exact h.2
      | nil => exact h
      | all => exact h
    have h0 : ∀ c : Nat, k = .at_ i → ¬ r[c]? = some (.at_ i) := fun c hk hc => by
      subst hk
      simp only [noDup, Bool.and_eq_true, Bool.not_eq_true'] at h
      have := List.any_eq_false.1 h.1 _ (List.mem_of_getElem? hc)
      exact this (Nat.beq_refl i)
    cases a with
    | zero =>
      cases b with
      | zero => rfl
      | succ b => simp at ha hb; exact absurd hb (h0 b ha)
    | succ a =>
      cases b with
      | zero => simp at ha hb; exact absurd ha (h0 a hb)
      | succ b => simp at ha hb; rw [noDup_at hr ha hb]
theorem renB_mk {K : List KE} {M : List Blk} {k : KE} {e : TypeId} {cs : List SC} (h : renB K M k = some (.mk e cs)) : ∃ i cs0, k = .at_ i ∧ M[i]? = some (.mk e cs0) ∧ optL (renC K) cs0 = some cs := by
  cases k with
  | nil => cases h
  | all is => simp only [renB] at h; split at h <;> cases h
  | at_ i =>
    simp only [renB] at h
    split at h
    · rename_i e0 cs0 hm
      split at h
      · rename_i l hl; cases h; exact ⟨i, cs0, rfl, hm, hl⟩
      · cases h
    all_goals cases h
theorem renB_lst {K : List KE} {M : List Blk} {k : KE} {e : TypeId} {sz n : Nat} {f : Nat → List SC} (h : renB K M k = some (.lst e sz n f)) : (∃ i, k = .at_ i ∧ M[i]? = some (.lst e sz n f)) ∨ (∃ e' sz' t, k = .nil e' sz' t) ∧ n = 0 := by
  cases k with
  | nil e' sz' t => simp only [renB] at h; cases h; exact .inr ⟨⟨_, _, _, rfl⟩, rfl⟩
  | all is => simp only [renB] at h; split at h <;> cases h
  | at_ i =>
    simp only [renB] at h
    split at h
    · split at h <;> cases h
    · rename_i hm; cases h; exact .inl ⟨i, rfl, hm⟩
    all_goals cases h
theorem renB_ab {K : List KE} {M : List Blk} {k : KE} {Q : AbQ} (h : renB K M k = some (Blk.ab Q)) : ∃ i, k = .at_ i ∧ M[i]? = some (Blk.ab Q) := by
  cases k with
  | nil => cases h
  | all is => simp only [renB] at h; split at h <;> cases h
  | at_ i =>
    simp only [renB] at h
    split at h
    · split at h <;> cases h
    · cases h
    · cases h
    · rename_i hm; cases h; exact ⟨i, rfl, hm⟩
    · cases h
    · cases h
theorem fzAll_sound {β : Env} {base : Nat} {M : List Blk} {w : World} (hM : ∀ (i : Nat) Q, M[i]? = some (Blk.fz Q) → Frz β base M w Q) : ∀ {is : List Nat} {Q : World → Prop}, fzAll M is = some Q → Frz β base M w Q
  | [], Q, h => by
    simp only [fzAll] at h
    cases h
    exact ⟨fun _ => False, fun r h => h.elim, fun _ _ => trivial⟩
  | i :: is, Q, h => by
    simp only [fzAll] at h
    split at h
    · rename_i Q1 R1 h1 h2
      cases h
      obtain ⟨F, hF, hQ⟩ := hM i Q1 h1
      obtain ⟨G, hG, hR⟩ := fzAll_sound hM h2
      exact ⟨fun r => F r ∨ G r, fun r h => h.elim (hF r) (hG r), fun w' hw => ⟨hQ w' fun r h => hw r (.inl h), hR w' fun r h => hw r (.inr h)⟩⟩
    · cases h
theorem renB_fz {K : List KE} {M : List Blk} {k : KE} {Q : World → Prop} (h : renB K M k = some (Blk.fz Q)) : (∃ i, k = .at_ i ∧ M[i]? = some (Blk.fz Q)) ∨ ∃ is, k = .all is ∧ fzAll M is = some Q := by
  cases k with
  | nil => cases h
  | all is =>
    simp only [renB] at h
    split at h
    · rename_i Q1 h1; cases h; exact .inr ⟨is, rfl, h1⟩
    · cases h
  | at_ i =>
    simp only [renB] at h
    split at h
    · split at h <;> cases h
    · cases h
    · cases h
    · cases h
    · rename_i hm; cases h; exact .inl ⟨i, rfl, hm⟩
    · cases h
theorem envK_at {K : List KE} {j i : Nat} (β : Env) (h : K[j]? = some (.at_ i)) : envK K β j = β i ∧ (envK K β).v j = β.v i := by
  constructor
  · show keB K β j = _; unfold keB; rw [h]
  · show keV K β j = _; unfold keV; rw [h]
theorem envK_nil {K : List KE} {j : Nat} {e : TypeId} {sz t : Nat} (β : Env) (h : K[j]? = some (.nil e sz t)) : (envK K β).v j = (none, 0, 0) := by
  show keV K β j = _; unfold keV; rw [h]
theorem renB_real {K : List KE} {M : List Blk} {β : Env} {j : Nat} {k : KE} {b : Blk} (hk : K[j]? = some k) (h : renB K M k = some b) (hr : b.real (envK K β) j) : ∃ i a, k = .at_ i ∧ M[i]? = some a ∧ a.real β i := by
  cases b with
  | mk e cs => obtain ⟨i, cs0, rfl, hm, _⟩ := renB_mk h; exact ⟨i, _, rfl, hm, trivial⟩
  | dead => exact hr.elim
  | lst e sz n f =>
    rcases renB_lst h with ⟨i, rfl, hm⟩ | ⟨⟨_, _, _, rfl⟩, _⟩
    · refine ⟨i, _, rfl, hm, ?_⟩
      unfold Blk.real at hr ⊢
      rw [(envK_at β hk).2] at hr; exact hr
    · unfold Blk.real at hr
      rw [envK_nil β hk] at hr; cases hr
  | ab Q => obtain ⟨i, rfl, hm⟩ := renB_ab h; exact ⟨i, _, rfl, hm, trivial⟩
  | fz => exact hr.elim
theorem Inv.ren {O : Nat → Prop} {w0 w : World} {β : Env} {M M' : List Blk} {K : List KE} (h : Inv O w0 β M w) (hd : noDup K = true) (hM : renM K M = some M') : Inv O w0 (envK K β) M' w := by
  refine ⟨fun j e cs hj => ?_, fun j e sz n f hj => ?_, fun i j a b hi hj hr hs he => ?_, h.fr, fun j a hj hr => ?_, fun j Q hj => ?_, fun j Q hj => ?_⟩
  rotate_right
  · obtain ⟨k, hk, hb⟩ := optL_at hM hj
    have hF : Frz β w0.heap.size M w Q := by
      rcases renB_fz hb with ⟨i, rfl, hm⟩ | ⟨is, rfl, hs⟩
      · exact h.fz i Q hm
      · exact fzAll_sound h.fz hs
    refine hF.step (Nat.le_refl _) (Nat.le_refl _) fun r _ _ h3 => ⟨rfl, fun j2 a hj2 hr2 => ?_⟩
    obtain ⟨k2, hk2, hb2⟩ := optL_at hM hj2
    obtain ⟨i2, a2, rfl, hm2, hr3⟩ := renB_real hk2 hb2 hr2
    rw [(envK_at β hk2).1]
    exact h3 i2 a2 hm2 hr3
  rotate_right
  · obtain ⟨k, hk, hb⟩ := optL_at hM hj
    obtain ⟨i, rfl, hm⟩ := renB_ab hb
    rw [(envK_at β hk).1]; exact h.ab i Q hm
  · obtain ⟨k, hk, hb⟩ := optL_at hM hj
    obtain ⟨i, cs0, rfl, hm, hc⟩ := renB_mk hb
    rw [(envK_at β hk).1, h.at_ i e cs0 hm, optL_map (fun x y hxy => renC_den β hxy) hc]
  · obtain ⟨k, hk, hb⟩ := optL_at hM hj
    rcases renB_lst hb with ⟨i, rfl, hm⟩ | ⟨⟨e', sz', t, rfl⟩, rfl⟩
    · exact (h.ls i e sz n f hm).kept (envK_at β hk).1 (envK_at β hk).2 (fun _ => rfl)
    · have hv := envK_nil β hk
      refine ⟨⟨[], ?_, fun j hj => absurd hj (Nat.not_lt_zero j)⟩, fun a ha => by rw [hv] at ha; cases ha⟩
      unfold Env.sv
      rw [hv]
      exact World.ownsRow_nil w _ e sz
  · obtain ⟨k1, hk1, hb1⟩ := optL_at hM hi
    obtain ⟨k2, hk2, hb2⟩ := optL_at hM hj
    obtain ⟨i1, a1, rfl, hm1, hr1⟩ := renB_real hk1 hb1 hr
    obtain ⟨i2, a2, rfl, hm2, hr2⟩ := renB_real hk2 hb2 hs
    rw [(envK_at β hk1).1, (envK_at β hk2).1] at he
    have := h.inj i1 i2 a1 a2 hm1 hm2 hr1 hr2 he
    subst this
    exact noDup_at hd hk1 hk2
  · obtain ⟨k, hk, hb⟩ := optL_at hM hj
    obtain ⟨i, a0, rfl, hm, hr0⟩ := renB_real hk hb hr
    rw [(envK_at β hk).1]
    exact h.low i a0 hm hr0
theorem pre0_at : ∀ {n a : Nat} {K : List KE}, pre0 a n K = true → ∀ i, i < n → K[i]? = some (.at_ (a + i))
  | 0, _, _, _, i, hi => absurd hi (Nat.not_lt_zero i)
  | n + 1, a, [], h, _, _ => by cases h
  | n + 1, a, .nil .. :: r, h, _, _ => by cases h
  | n + 1, a, .all _ :: r, h, _, _ => by cases h
  | n + 1, a, .at_ j :: r, h, i, hi => by
    simp only [pre0, Bool.and_eq_true] at h
    cases i with
    | zero => rw [Nat.eq_of_beq_eq_true h.1]; rfl
    | succ i => rw [List.getElem?_cons_succ, pre0_at h.2 i (by omega)]; congr 2; omega
theorem Ext.ren {n : Nat} {K : List KE} (h : pre0 0 n K = true) (β : Env) : Ext n β (envK K β) := fun i hi => by
  have := pre0_at h i hi
  rw [Nat.zero_add] at this
  exact envK_at β this
def nilAt (K : List KE) (t : Nat) (x : SX) : Option Nat :=
  match x with
  | .v (.c (.val (.slice none n c))) => bif Nat.beq n 0 && Nat.beq c 0 then idxK (fun k => match k with | .nil _ _ s => Nat.beq s t | _ => false) 0 K else none
  | _ => none
theorem nilAt_den {K : List KE} {t j : Nat} {x : SX} (β : Env) (h : nilAt K t x = some j) : (SX.one (.lst j)).den (envK K β) = x.den β := by
  unfold nilAt at h
  split at h
  · rename_i n c
    cases hz : (Nat.beq n 0 && Nat.beq c 0) with
    | false => rw [hz] at h; cases h
    | true =>
      rw [hz] at h
      simp only [Bool.and_eq_true] at hz
      rw [Nat.eq_of_beq_eq_true hz.1, Nat.eq_of_beq_eq_true hz.2]
      obtain ⟨m, k, e, hm, hk⟩ := idxK_sound h
      rw [Nat.zero_add] at e
      subst e
      cases k with
      | at_ => cases hk
      | all => cases hk
      | nil e sz s =>
        show (envK K β).sv j = .slice none 0 0
        unfold Env.sv
        rw [envK_nil β hm]
  · cases h
def isJ (S : List Nat) (t : Nat) : Bool := S.any fun s => Nat.beq s t
def slotX (K : List KE) (S : List Nat) (J : Nat → Value) (t : Nat) (x : SX) : SX :=
  bif isJ S t then SX.one (.opq (J t)) else match nilAt K t x with
    | some j => SX.one (.lst j)
    | none => (match renX K x with
      | some y => y
      | none => undefX)
def slotOk (K : List KE) (S : List Nat) (t : Nat) (x : SX) : Bool :=
  isJ S t || ((nilAt K t x).isSome || (renX K x).isSome)
def goTs (K : List KE) (S : List Nat) (J : Nat → Value) : Nat → List SX → List SX
  | _, [] => []
  | t, x :: r => slotX K S J t x :: goTs K S J (t + 1) r
def okTs (K : List KE) (S : List Nat) : Nat → List SX → Bool
  | _, [] => true
  | t, x :: r => slotOk K S t x && okTs K S (t + 1) r
theorem slotX_den {K : List KE} {S : List Nat} {J : Nat → Value} {t : Nat} {x : SX} (β : Env) (h : slotOk K S t x = true) (hJ : J t = x.den β) : (slotX K S J t x).den (envK K β) = x.den β := by
  unfold slotX slotOk at *
  cases hj : isJ S t with
  | true => exact hJ
  | false =>
    rw [hj] at h
    simp only [Bool.false_or, Bool.or_eq_true] at h
    simp only [cond_false]
    split
    · rename_i j hn; exact nilAt_den β hn
    · rename_i hn
      rw [hn] at h
      split
      · rename_i y hy; exact renX_den β hy
      · rename_i hy; rw [hy] at h; simp at h
theorem goTs_den {K : List KE} {S : List Nat} {J : Nat → Value} (β : Env) : ∀ (ts : List SX) (t : Nat), okTs K S t ts = true → (∀ i x, ts[i]? = some x → J (t + i) = x.den β) → (goTs K S J t ts).map (·.den (envK K β)) = ts.map (·.den β)
  | [], _, _, _ => rfl
  | x :: r, t, h, hJ => by
    simp only [okTs, Bool.and_eq_true] at h
    simp only [goTs, List.map_cons]
    rw [slotX_den β h.1 (hJ 0 x rfl), goTs_den β r (t + 1) h.2 (fun i y hy => by have := hJ (i + 1) y (by simpa using hy); rwa [show t + (i + 1) = t + 1 + i by omega] at this)]
/-- The same blocks; a list's elements may be told by other words. -/
def BEq : Blk → Blk → Prop
  | .lst e sz n f, b => ∃ g, b = .lst e sz n g ∧ ∀ j, j < n → f j = g j
  | .fz Q, b => ∃ R, b = .fz R ∧ ∀ w, Q w → R w
  | a, b => b = a
def LEq : List Blk → List Blk → Prop
  | [], [] => True
  | a :: as, b :: bs => BEq a b ∧ LEq as bs
  | _, _ => False
theorem LEq.at_ : ∀ {N N' : List Blk}, LEq N N' → ∀ {i : Nat} {b : Blk}, N'[i]? = some b → ∃ a, N[i]? = some a ∧ BEq a b
  | [], [], _, i, b, h => by simp at h
  | a :: as, b :: bs, h, i, c, hi => by
    cases i with
    | zero => simp at hi; subst hi; exact ⟨a, rfl, h.1⟩
    | succ i => exact h.2.at_ (i := i) (by simpa using hi)
  | [], _ :: _, h, _, _, _ => h.elim
  | _ :: _, [], h, _, _, _ => h.elim
theorem BEq.real {a b : Blk} (h : BEq a b) {β : Env} {i : Nat} (hr : b.real β i) : a.real β i := by
  cases a with
  | lst e sz n f => obtain ⟨g, rfl, _⟩ := h; exact hr
  | mk => have h : b = _ := h; subst h; exact hr
  | dead => have h : b = _ := h; subst h; exact hr
  | ab => have h : b = _ := h; subst h; exact hr
  | fz Q => obtain ⟨g, rfl, _⟩ := h; exact hr
theorem Inv.leq {O : Nat → Prop} {w0 w : World} {β : Env} {N N' : List Blk} (h : Inv O w0 β N w) (hl : LEq N N') : Inv O w0 β N' w := by
  refine ⟨fun i e cs hi => ?_, fun i e sz n f hi => ?_, fun i j a b hi hj hr hs he => ?_, h.fr, fun i a hi hr => ?_, fun i Q hi => ?_, fun i Q hi => ?_⟩
  rotate_right
  · obtain ⟨a, ha, hb⟩ := hl.at_ hi
    cases a with
    | fz Q0 =>
      obtain ⟨R, e2, hR⟩ := hb
      cases e2
      obtain ⟨F, hF, hQ⟩ := h.fz i Q0 ha
      refine ⟨F, fun r hr => ⟨(hF r hr).1, (hF r hr).2.1, fun j b hj hrj => ?_⟩, fun w' hw => hR w' (hQ w' hw)⟩
      obtain ⟨b0, hb0, hbb⟩ := hl.at_ hj
      exact (hF r hr).2.2 j b0 hb0 (hbb.real hrj)
    | lst => obtain ⟨g, e2, _⟩ := hb; cases e2
    | mk => have hb : _ = _ := hb; cases hb
    | dead => have hb : _ = _ := hb; cases hb
    | ab => have hb : _ = _ := hb; cases hb
  rotate_right
  · obtain ⟨a, ha, hb⟩ := hl.at_ hi
    cases a with
    | ab => have hb : _ = _ := hb; rw [← hb] at ha; exact h.ab i Q ha
    | lst => obtain ⟨g, e2, _⟩ := hb; cases e2
    | fz => obtain ⟨g, e2, _⟩ := hb; cases e2
    | mk => have hb : _ = _ := hb; cases hb
    | dead => have hb : _ = _ := hb; cases hb
  · obtain ⟨a, ha, hb⟩ := hl.at_ hi
    cases a with
    | lst => obtain ⟨g, e2, _⟩ := hb; cases e2
    | fz => obtain ⟨g, e2, _⟩ := hb; cases e2
    | mk => have hb : _ = _ := hb; rw [← hb] at ha; exact h.at_ i e cs ha
    | dead => have hb : _ = _ := hb; cases hb
    | ab => have hb : _ = _ := hb; cases hb
  · obtain ⟨a, ha, hb⟩ := hl.at_ hi
    cases a with
    | lst e' sz' n' f' =>
      obtain ⟨g, e2, hg⟩ := hb
      cases e2
      have hL := h.ls i e sz n f' ha
      obtain ⟨xs, ho, hx⟩ := hL.own
      exact ⟨⟨xs, ho, fun j hj => by rw [← hg j hj]; exact hx j hj⟩, hL.blk⟩
    | fz => obtain ⟨g, e2, _⟩ := hb; cases e2
    | mk => have hb : _ = _ := hb; cases hb
    | dead => have hb : _ = _ := hb; cases hb
    | ab => have hb : _ = _ := hb; cases hb
  · obtain ⟨a0, ha, hba⟩ := hl.at_ hi
    obtain ⟨b0, hb, hbb⟩ := hl.at_ hj
    exact h.inj i j a0 b0 ha hb (hba.real hr) (hbb.real hs) he
  · obtain ⟨a0, ha, hba⟩ := hl.at_ hi
    exact h.low i a0 ha (hba.real hr)
/-! ### loops by an invariant -/
def junkS (S : List Nat) (J : Nat → Value) (ts : List SX) : List SX := S.foldl (fun ts i => ts.set i (SX.one (.opq (J i)))) ts
structure LInv where
  σ : Type
  pre : σ → Prop
  mem : σ → List Blk
  tmp : σ → (Nat → Value) → List SX
  read : List Blk → List SX → σ
  junk : List Nat
  μ : σ → Nat
  keep : Option (List Blk → List SX → List KE) := none
  ex : Bool := false
  conv : List (Nat × Nat) := []
structure Fits (I : LInv) (s : I.σ) (M : List Blk) (T : (Nat → Value) → List SX) : Prop where
  pre : I.pre s
  mem : M = I.mem s
  tmp : ∀ J, T J = I.tmp s J
structure Dec (I : LInv) (s' s : I.σ) : Prop where
  lt : I.μ s' < I.μ s
def fitsK (n0 : Nat) (I : LInv) (s : I.σ) (M : List Blk) (ts : List SX) (K : List KE) : Prop :=
  bif noDup K && (pre0 0 n0 K && okTs K I.junk 0 ts) then (match renM K M with
    | some M' => Fits I s M' (fun J => goTs K I.junk J 0 ts)
    | none => False) else False
def fits (n0 : Nat) (I : LInv) (s : I.σ) (M : List Blk) (ts : List SX) : Prop :=
  match I.keep with
  | none => Fits I s (M.take (I.mem s).length) (fun J => junkS I.junk J ts)
  | some kp => fitsK n0 I s M ts (kp M ts)
/-- A loop's head, its state told by the prover. -/
structure FitE (I : LInv) (M : List Blk) (T : (Nat → Value) → List SX) (D : I.σ → Prop) : Prop where
  out : ∃ s, I.pre s ∧ LEq M (I.mem s) ∧ (∀ J, T J = I.tmp s J) ∧ D s
def fitE (n0 : Nat) (I : LInv) (M : List Blk) (ts : List SX) (K : List KE) (D : I.σ → Prop) : Prop :=
  bif noDup K && (pre0 0 n0 K && okTs K I.junk 0 ts) then (match renM K M with
    | some M' => FitE I M' (fun J => goTs K I.junk J 0 ts) D
    | none => False) else False
def keepOf (I : LInv) (M : List Blk) (ts : List SX) : List KE :=
  match I.keep with
  | some kp => kp M ts
  | none => []
/-- No slice's worth of the number b is spoken of. -/
def noVC (b : Nat) : SC → Bool
  | .lst k => !(Nat.beq k b)
  | .lsub k _ _ _ => !(Nat.beq k b)
  | .ep k _ _ _ => !(Nat.beq k b)
  | _ => true
def noVS (b : Nat) : SV → Bool
  | .c x => noVC b x
  | .agg cs => cs.all (noVC b)
def noVX (b : Nat) : SX → Bool
  | .v x => noVS b x
  | .tup vs => vs.all (noVS b)
/-- A block of cells that a slot holds whole as a slice becomes a list. -/
def conv1 (n0 : Nat) (M : List Blk) (ts : List SX) (t sz : Nat) : Option (List Blk × List SX) :=
  match ts.getD t undefX with
  | .v (.c (.sl b 0 n cap)) => (match M[b]? with
    | some (.mk e cs) => (bif Nat.beq n cap && (Nat.ble n0 b && (Nat.beq cs.length (n * sz) && (Nat.ble n 9223372036854775807 && (cs.all (·.lt 0) && (cs.all SC.ok && (ts.all (noVX b) && (M.all (fun a => a.cells.all (noVC b)) && Nat.blt t ts.length))))))) then
        some (M.set b (.lst e sz n (fun j => (chunks sz n cs).getD j [])), ts.set t (SX.one (.lst b))) else none)
    | _ => none)
  | _ => none
def convL (n0 : Nat) (M : List Blk) (ts : List SX) : List (Nat × Nat) → List Blk × List SX
  | [] => (M, ts)
  | (t, sz) :: r => match conv1 n0 M ts t sz with
    | some p => convL n0 p.1 p.2 r
    | none => convL n0 M ts r
def fitC (n0 : Nat) (I : LInv) (M : List Blk) (ts : List SX) (D : I.σ → Prop) : Prop :=
  match convL n0 M ts I.conv with
  | (M', ts') => fitE n0 I M' ts' (keepOf I M' ts') D
structure GrN (n0 : Nat) (M' : List Blk) (β β' : Env) : Prop where
  le : n0 ≤ M'.length
  ext : Ext n0 β β'
theorem GrN.trans {n0 : Nat} {M' M'' : List Blk} {β β' β'' : Env} (h : GrN n0 M' β β') (h' : GrN n0 M'' β' β'') : GrN n0 M'' β β'' :=
  ⟨h'.le, h.ext.trans h'.ext⟩
theorem Grow.toN {n0 : Nat} {M M' : List Blk} {β β' : Env} (h : Grow M M' β β') (hn : n0 ≤ M.length) : GrN n0 M' β β' :=
  ⟨Nat.le_trans hn h.le, h.ext.le hn⟩
theorem GrN.refl {n0 : Nat} {M : List Blk} (β : Env) (hn : n0 ≤ M.length) : GrN n0 M β β := ⟨hn, Ext.refl _ _⟩
abbrev Ev := List Blk → List SX → (Exit → List Blk → List SX → Prop) → Prop
def loopE (n0 : Nat) (I : LInv) (E : Ev) (M : List Blk) (ts : List SX) (k : Exit → List Blk → List SX → Prop) : Prop :=
  (∀ s, I.pre s → n0 ≤ (I.mem s).length) ∧ fitC n0 I M ts (fun _ => True) ∧ ∀ s J, I.pre s → E (I.mem s) (I.tmp s J) (fun e M' ts' => match e with
    | .normal => fitC n0 I M' ts' (fun s' => I.μ s' < I.μ s)
    | e => k e M' ts')
def loopI (n0 : Nat) (I : LInv) (E : Ev) (M : List Blk) (ts : List SX) (k : Exit → List Blk → List SX → Prop) : Prop :=
  bif I.ex then loopE n0 I E M ts k else
  (∀ s, I.pre s → n0 ≤ (I.mem s).length) ∧ fits n0 I (I.read M ts) M ts ∧ ∀ s J, I.pre s → E (I.mem s) (I.tmp s J) (fun e M' ts' => match e with
    | .normal => fits n0 I (I.read M' ts') M' ts' ∧ Dec I (I.read M' ts') s
    | e => k e M' ts')
theorem fr_junk (β : Env) (S : List Nat) (ts : List SX) : fr β (junkS S (fun i => (ts.getD i undefX).den β) ts) = fr β ts := by
  have : ∀ (S : List Nat) (us : List SX), fr β us = fr β ts → us.length = ts.length → fr β (S.foldl (fun us i => us.set i (SX.one (.opq ((ts.getD i undefX).den β)))) us) = fr β ts := by
    intro S
    induction S with
    | nil => exact fun us h _ => h
    | cons i S ih =>
      intro us h hl
      refine ih _ ?_ (by simpa using hl)
      rw [← h]
      rcases Nat.lt_or_ge i ts.length with hi | hi
      · refine fr_same β us i _ ⟨us[i]'(by omega), List.getElem?_eq_getElem _, ?_⟩
        have e : (fr β us)[i]? = (fr β ts)[i]? := by rw [h]
        rw [fr_get, fr_get, List.getElem?_eq_getElem hi, List.getElem?_eq_getElem (by omega)] at e
        have e2 : (us[i]'(by omega)).den β = ts[i].den β := Option.some.inj e
        rw [e2, List.getD_eq_getElem?_getD, List.getElem?_eq_getElem hi]
        rfl
      · show fr β (us.set i _) = _
        rw [List.set_eq_of_length_le (by omega)]
  exact this S ts rfl rfl
theorem Inv.drop {O : Nat → Prop} {w0 w : World} {β : Env} {M g : List Blk} (h : Inv O w0 β (M ++ g) w) : Inv O w0 β M w := by
  have hl : ∀ {i : Nat} {a : Blk}, M[i]? = some a → (M ++ g)[i]? = some a := fun hi => by rw [List.getElem?_append_left (get_lt hi)]; exact hi
  exact ⟨fun i e cs hi => h.at_ i e cs (hl hi), fun i e sz n f hi => h.ls i e sz n f (hl hi), fun i j a b hi hj => h.inj i j a b (hl hi) (hl hj), h.fr, fun i a hi => h.low i a (hl hi), fun i Q hi => h.ab i Q (hl hi), fun i Q hi => (h.fz i Q (hl hi)).step (Nat.le_refl _) (Nat.le_refl _) fun r _ _ h3 => ⟨rfl, fun j a hj => h3 j a (hl hj)⟩⟩
theorem fits_sound {O : Nat → Prop} {w0 : World} {n0 : Nat} {I : LInv} {s : I.σ} {M : List Blk} {ts : List SX} {β : Env} {w : World} (hf : fits n0 I s M ts) (hI : Inv O w0 β M w) :
    I.pre s ∧ ∃ J β', fr β ts = fr β' (I.tmp s J) ∧ Inv O w0 β' (I.mem s) w ∧ Ext n0 β β' := by
  unfold fits at hf
  split at hf
  · refine ⟨hf.pre, fun i => (ts.getD i undefX).den β, β, ?_, ?_, Ext.refl _ _⟩
    · rw [← hf.tmp, fr_junk]
    · have e : M = I.mem s ++ M.drop (I.mem s).length := (List.take_append_drop (I.mem s).length M).symm.trans (congrArg (· ++ M.drop (I.mem s).length) hf.mem)
      rw [e] at hI
      exact hI.drop
  · rename_i kp _
    unfold fitsK at hf
    generalize kp M ts = K at hf
    cases hg : (noDup K && (pre0 0 n0 K && okTs K I.junk 0 ts)) with
    | false => rw [hg] at hf; exact hf.elim
    | true =>
      rw [hg] at hf
      simp only [Bool.and_eq_true] at hg
      simp only [cond_true] at hf
      split at hf
      · rename_i M' hM
        refine ⟨hf.pre, fun i => (ts.getD i undefX).den β, envK K β, ?_, ?_, Ext.ren hg.2.1 β⟩
        · rw [← hf.tmp]
          unfold fr
          rw [goTs_den β ts 0 hg.2.2 (fun i x hx => by rw [Nat.zero_add, List.getD_eq_getElem?_getD, hx]; rfl)]
        · rw [← hf.mem]; exact hI.ren hg.1 hM
      · exact hf.elim
theorem fitE_sound {O : Nat → Prop} {w0 : World} {n0 : Nat} {I : LInv} {M : List Blk} {ts : List SX} {K : List KE} {D : I.σ → Prop} {β : Env} {w : World} (hf : fitE n0 I M ts K D) (hI : Inv O w0 β M w) :
    ∃ s, I.pre s ∧ D s ∧ ∃ J β', fr β ts = fr β' (I.tmp s J) ∧ Inv O w0 β' (I.mem s) w ∧ Ext n0 β β' := by
  unfold fitE at hf
  cases hg : (noDup K && (pre0 0 n0 K && okTs K I.junk 0 ts)) with
  | false => rw [hg] at hf; exact hf.elim
  | true =>
    rw [hg] at hf
    simp only [Bool.and_eq_true] at hg
    simp only [cond_true] at hf
    split at hf
    · rename_i M' hM
      obtain ⟨s, hp, hl, ht, hd⟩ := hf.out
      refine ⟨s, hp, hd, fun i => (ts.getD i undefX).den β, envK K β, ?_, (hI.ren hg.1 hM).leq hl, Ext.ren hg.2.1 β⟩
      rw [← ht]
      unfold fr
      rw [goTs_den β ts 0 hg.2.2 (fun i x hx => by rw [Nat.zero_add, List.getD_eq_getElem?_getD, hx]; rfl)]
    · exact hf.elim
theorem SC.den_noV {b : Nat} {β : Env} {v : Option Addr × Nat × Nat} {x : SC} (h : noVC b x = true) : x.den ⟨β.b, fun i => if i = b then v else β.v i⟩ = x.den β := by
  have key : ∀ k, (!(Nat.beq k b)) = true → (if k = b then v else β.v k) = β.v k := fun k hk => by
    rw [if_neg (fun e => by subst e; simp at hk)]
  cases x with
  | lst k => show Env.sv _ k = _; unfold Env.sv; rw [show (Env.mk β.b fun i => if i = b then v else β.v i).v k = β.v k from key k h]; rfl
  | lsub k sz lo n => show subV _ sz lo n = _; rw [show (Env.mk β.b fun i => if i = b then v else β.v i).v k = β.v k from key k h]; rfl
  | ep k sz j off => show elemV _ sz j off = _; rw [show (Env.mk β.b fun i => if i = b then v else β.v i).v k = β.v k from key k h]; rfl
  | _ => rfl
theorem SX.den_noV {b : Nat} {β : Env} {v : Option Addr × Nat × Nat} {x : SX} (h : noVX b x = true) : x.den ⟨β.b, fun i => if i = b then v else β.v i⟩ = x.den β := by
  have hS : ∀ y : SV, noVS b y = true → y.den ⟨β.b, fun i => if i = b then v else β.v i⟩ = y.den β := fun y hy => by
    cases y with
    | c x => exact SC.den_noV hy
    | agg cs =>
      show Value.agg _ = Value.agg _
      rw [List.map_congr_left fun c hc => SC.den_noV (List.all_eq_true.1 hy c hc)]
  cases x with
  | v y => exact hS y h
  | tup vs =>
    show Value.tuple _ = Value.tuple _
    rw [List.map_congr_left fun c hc => hS c (List.all_eq_true.1 h c hc)]
theorem conv1_sound {O : Nat → Prop} {w0 : World} {n0 : Nat} {M M' : List Blk} {ts ts' : List SX} {t sz : Nat} {β : Env} {w : World} (h : conv1 n0 M ts t sz = some (M', ts')) (hI : Inv O w0 β M w) :
    ∃ β', fr β ts = fr β' ts' ∧ Inv O w0 β' M' w ∧ Ext n0 β β' := by
  unfold conv1 at h
  split at h
  case h_2 => cases h
  rename_i b n cap ht
  split at h
  case h_2 => cases h
  rename_i e cs hb
  cases hg : (Nat.beq n cap && (Nat.ble n0 b && (Nat.beq cs.length (n * sz) && (Nat.ble n 9223372036854775807 && (cs.all (·.lt 0) && (cs.all SC.ok && (ts.all (noVX b) && (M.all (fun a => a.cells.all (noVC b)) && Nat.blt t ts.length)))))))) with
  | false => rw [hg] at h; cases h
  | true =>
    rw [hg] at h
    simp only [cond_true, Option.some.injEq, Prod.mk.injEq] at h
    obtain ⟨rfl, rfl⟩ := h
    simp only [Bool.and_eq_true] at hg
    obtain ⟨g1, g2, g3, g4, g5, g6, g7, g8, g9⟩ := hg
    have g1 := Nat.eq_of_beq_eq_true g1
    have g2 := Nat.le_of_ble_eq_true g2
    have g3 := Nat.eq_of_beq_eq_true g3
    have g4 := Nat.le_of_ble_eq_true g4
    have g9 : t < ts.length := by simpa using g9
    subst g1
    have hbl := get_lt hb
    have hbr := hI.at_ b e cs hb
    refine ⟨⟨β.b, fun i => if i = b then (some ⟨β b, 0, none⟩, n, n) else β.v i⟩, ?_, ?_, fun i hi => ⟨rfl, by show (if i = b then _ else β.v i) = β.v i; rw [if_neg (by omega)]⟩⟩
    · unfold fr
      congr 1
      rw [List.map_set]
      have e1 : ts.map (·.den ⟨β.b, fun i => if i = b then (some ⟨β b, 0, none⟩, n, n) else β.v i⟩) = ts.map (·.den β) := List.map_congr_left fun x hx => SX.den_noV (List.all_eq_true.1 g7 x hx)
      rw [e1]
      have e2 : (SX.one (.lst b)).den ⟨β.b, fun i => if i = b then (some ⟨β b, 0, none⟩, n, n) else β.v i⟩ = (SX.v (.c (.sl b 0 n n))).den β := by
        have hv : (Env.mk β.b fun k => if k = b then ((some ⟨β b, 0, none⟩ : Option Addr), n, n) else β.v k).v b = (some ⟨β b, 0, none⟩, n, n) := by show (if b = b then _ else _) = _; rw [if_pos rfl]
        show Env.sv _ b = _
        unfold Env.sv
        rw [hv]; rfl
      rw [e2]
      refine (List.ext_getElem? fun i => ?_)
      rw [List.getElem?_set]
      split
      · rename_i hi
        subst hi
        rw [if_pos (by simpa using g9), List.getElem?_map]
        rw [List.getD_eq_getElem?_getD, List.getElem?_eq_getElem g9] at ht
        rw [List.getElem?_eq_getElem g9]
        show some (ts[t].den β) = _
        have ht : ts[t] = SX.v (.c (.sl b 0 n n)) := ht
        rw [ht]
      · rfl
    · have old : ∀ {i : Nat} {a : Blk}, (M.set b (.lst e sz n (fun j => (chunks sz n cs).getD j [])))[i]? = some a → i ≠ b → M[i]? = some a := fun {i a} hi hne => by
        rw [List.getElem?_set_ne (fun e => hne e.symm)] at hi; exact hi
      have self : ∀ {a : Blk}, (M.set b (.lst e sz n (fun j => (chunks sz n cs).getD j [])))[b]? = some a → a = .lst e sz n (fun j => (chunks sz n cs).getD j []) := fun {a} hi => by
        rw [List.getElem?_set_self hbl] at hi; exact (Option.some.inj hi).symm
      have was : ∀ {i : Nat} {a : Blk}, (M.set b (.lst e sz n (fun j => (chunks sz n cs).getD j [])))[i]? = some a → a.real ⟨β.b, fun i => if i = b then (some ⟨β b, 0, none⟩, n, n) else β.v i⟩ i → ∃ a0, M[i]? = some a0 ∧ a0.real β i := fun {i a} hi hr => by
        by_cases hne : i = b
        · subst hne; exact ⟨_, hb, trivial⟩
        · refine ⟨a, old hi hne, ?_⟩
          cases a with
          | lst e2 sz2 n2 f2 =>
            have : (if i = b then ((some ⟨β b, 0, none⟩ : Option Addr), n, n) else β.v i).1.isSome = true := hr
            rw [if_neg hne] at this; exact this
          | _ => exact hr
      refine ⟨fun i e2 cs2 hi => ?_, fun i e2 sz2 n2 f2 hi => ?_, fun i j a c hi hj hr hs he => ?_, hI.fr, fun i a hi hr => ?_, fun i Q hi => ?_, fun i Q hi => ?_⟩
      · by_cases hne : i = b
        · subst hne; cases self hi
        · have hm := old hi hne
          have := List.all_eq_true.1 g8 _ (List.mem_of_getElem? hm)
          have e3 : cs2.map (·.den ⟨β.b, fun i => if i = b then (some ⟨β b, 0, none⟩, n, n) else β.v i⟩) = cs2.map (·.den β) := List.map_congr_left fun x hx => SC.den_noV (List.all_eq_true.1 this x hx)
          rw [e3]; exact hI.at_ i e2 cs2 hm
      · by_cases hne : i = b
        · subst hne
          cases self hi
          have hv : (Env.mk β.b fun k => if k = i then ((some ⟨β i, 0, none⟩ : Option Addr), n, n) else β.v k).v i = (some ⟨β i, 0, none⟩, n, n) := by show (if i = i then _ else _) = _; rw [if_pos rfl]
          refine ⟨⟨(cs.map (·.den β)), ⟨by simp [g3], ?_⟩, ?_⟩, fun a ha => ?_⟩
          · unfold Env.sv
            rw [hv]
            refine .inr ⟨β i, n, (cs.map (·.den β)).toArray, rfl, Nat.zero_le _, hbr, Nat.le_refl _, g4, by simp [g3], ?_⟩
            show (cs.map (·.den β)).take (n * sz) = _
            rw [List.take_of_length_le (by simp [g3])]
          · exact fun j hj => (elemsOk_chunks (base := β) g3 g5 g6).ok j hj
          · rw [hv] at ha; cases ha; rfl
        · exact (hI.ls i e2 sz2 n2 f2 (old hi hne)).kept rfl (by show (if i = b then _ else β.v i) = _; rw [if_neg hne]) (fun _ => rfl)
      · obtain ⟨a0, h1, h2⟩ := was hi hr
        obtain ⟨c0, h3, h4⟩ := was hj hs
        exact hI.inj i j a0 c0 h1 h3 h2 h4 he
      · obtain ⟨a0, h1, h2⟩ := was hi hr
        exact hI.low i a0 h1 h2
      · by_cases hne : i = b
        · subst hne; cases self hi
        · exact hI.ab i Q (old hi hne)
      · by_cases hne : i = b
        · subst hne; cases self hi
        · refine (hI.fz i Q (old hi hne)).step (Nat.le_refl _) (Nat.le_refl _) fun r _ _ h3 => ⟨rfl, fun j a hj hr => ?_⟩
          obtain ⟨a0, h1, h2⟩ := was hj hr
          exact h3 j a0 h1 h2
theorem convL_sound {O : Nat → Prop} {w0 : World} {n0 : Nat} {w : World} : ∀ (l : List (Nat × Nat)) {M : List Blk} {ts : List SX} {β : Env}, Inv O w0 β M w →
    ∃ β', fr β ts = fr β' (convL n0 M ts l).2 ∧ Inv O w0 β' (convL n0 M ts l).1 w ∧ Ext n0 β β'
  | [], M, ts, β, hI => ⟨β, rfl, hI, Ext.refl _ _⟩
  | (t, sz) :: r, M, ts, β, hI => by
    unfold convL
    split
    · rename_i p hp
      obtain ⟨β1, h1, h2, h3⟩ := conv1_sound (M' := p.1) (ts' := p.2) hp hI
      obtain ⟨β2, h4, h5, h6⟩ := convL_sound r (ts := p.2) h2
      exact ⟨β2, h1.trans h4, h5, h3.trans h6⟩
    · exact convL_sound r hI
theorem fitC_sound {O : Nat → Prop} {w0 : World} {n0 : Nat} {I : LInv} {M : List Blk} {ts : List SX} {D : I.σ → Prop} {β : Env} {w : World} (hf : fitC n0 I M ts D) (hI : Inv O w0 β M w) :
    ∃ s, I.pre s ∧ D s ∧ ∃ J β', fr β ts = fr β' (I.tmp s J) ∧ Inv O w0 β' (I.mem s) w ∧ Ext n0 β β' := by
  unfold fitC at hf
  obtain ⟨β1, h1, h2, h3⟩ := convL_sound (n0 := n0) I.conv (ts := ts) hI
  obtain ⟨s, hp, hd, J, β2, h4, h5, h6⟩ := fitE_sound hf h2
  exact ⟨s, hp, hd, J, β2, h1.trans h4, h5, h3.trans h6⟩
/-- What is said of a loop: one invariant, or one for each worth that slots have where the loop begins. -/
inductive LI where
  | one (I : LInv)
  | fam (sl : List Nat) (F : List Int → LInv)
  | bool (m n v : Nat) (spec : List Blk → List SX → Option Bool)
instance : Coe LInv LI := ⟨.one⟩
def ghsT (ts : List SX) : List Nat → Option (List Int)
  | [] => some []
  | t :: r => (match ts.getD t undefX with
    | .v (.c (.val (.int _ n))) => (match ghsT ts r with
      | some l => some (n :: l)
      | none => none)
    | _ => none)
/-- The region of a code's first statement: a loop's name in its function. -/
def keyOf : Code → Nat
  | .region id _ _ => id
  | .seq a _ => keyOf a
  | .cond _ a _ => keyOf a
  | .block _ a => keyOf a
  | .loop a => keyOf a
  | .scope a => keyOf a
  | _ => 1000000
/-- From this number on a region's number is the mark of a place where what was told of the code ahead of it is summed up (the paths meet). -/
def MK : Nat := 5000000
/-- The table of a function's places lies under this number and its own. -/
def MKF : Nat := 3000000000
/-- A region's number with this added is the mark of a region in which paths meet. -/
def MB : Nat := 2000000
def mergeE (n0 : Nat) (I : LInv) (A B : Ev) (M : List Blk) (ts : List SX) (k : Exit → List Blk → List SX → Prop) : Prop :=
  (∀ s, I.pre s → n0 ≤ (I.mem s).length) ∧ A M ts (fun e M' ts' => match e with
    | .normal => fitC n0 I M' ts' (fun _ => True)
    | e => k e M' ts') ∧ ∀ s J, I.pre s → B (I.mem s) (I.tmp s J) k
def evCode (P : Program) (O : Nat → Prop) (w0 : World) (Λ : Nat → Option LI) (n0 : Nat) (H : Hd) : Nat → Code → List Blk → List SX → (Exit → List Blk → List SX → Prop) → Prop
  | 0, _, _, _, _ => False
  | n + 1, c, M, ts, k =>
    match c with
    | .skip => k .normal M ts
    | .label _ => k .normal M ts
    | .region id ops draw => (match Λ (MK + (MB + id)) with
      | some (.bool m n v spec) => evJoin P O w0 H ops draw m n v spec M ts (fun M' ts' => fcL fcB M' fun M' => k .normal M' ts')
      | _ => evRegion P O w0 H ops draw M ts (fun M' ts' => fcL fcB M' fun M' => k .normal M' ts'))
    | .seq a b => (match Λ (MK + keyOf b) with
      | none => evCode P O w0 Λ n0 H n a M ts (fun e M' ts' => match e with
        | .normal => evCode P O w0 Λ n0 H n b M' ts' k
        | e => k e M' ts')
      | some (.one I) => mergeE n0 I (evCode P O w0 Λ n0 H n a) (evCode P O w0 Λ n0 H n b) M ts k
      | some (.fam sl F) => (match ghsT ts sl with
        | some l => mergeE n0 (F l) (evCode P O w0 Λ n0 H n a) (evCode P O w0 Λ n0 H n b) M ts k
        | none => False)
      | some (.bool ..) => False)
    | .cond c a b => (match rd ts c with
      | .v (.c (.val (.bool t))) => bif t then evCode P O w0 Λ n0 H n a M ts k else evCode P O w0 Λ n0 H n b M ts k
      | _ => False)
    | .block id b => evCode P O w0 Λ n0 H n b M ts (fun e M' ts' => match e with
      | .exit id' => bif Nat.beq id' id then k .normal M' ts' else k (.exit id') M' ts'
      | e => k e M' ts')
    | .loop b => (match Λ (keyOf b) with
      | some (.one I) => loopI n0 I (evCode P O w0 Λ n0 H n b) M ts k
      | some (.fam sl F) => (match ghsT ts sl with
        | some l => loopI n0 (F l) (evCode P O w0 Λ n0 H n b) M ts k
        | none => False)
      | some (.bool ..) => False
      | none => evCode P O w0 Λ n0 H n b M ts (fun e M' ts' => match e with
        | .normal => evCode P O w0 Λ n0 H n (.loop b) M' ts' k
        | e => k e M' ts'))
    | .exit id => k (.exit id) M ts
    | .ret => k .ret M ts
    | .scope b => evCode P O w0 Λ n0 H n b M ts (fun e M' ts' => match e with
      | .goto _ => False
      | e => k e M' ts')
    | _ => False
def AP (P : Program) (O : Nat → Prop) (w0 : World) (Λ : Nat → Option LI) (n0 : Nat) (H : Hd) (df : List Deferred) (n : Nat) : Prop :=
  ∀ (c : Code) (M : List Blk) (ts : List SX) (k : Exit → List Blk → List SX → Prop), evCode P O w0 Λ n0 H n c M ts k →
    ∀ (β : Env) (w : World) (Q : Exit → Act → World → Prop), Inv O w0 β M w → n0 ≤ M.length → (∀ e M' ts' β' w', k e M' ts' → Inv O w0 β' M' w' → GrN n0 M' β β' → Q e ⟨fr β' ts', df⟩ w') → c.wp P Q ⟨fr β ts, df⟩ w
theorem rounds_of {P : Program} {O : Nat → Prop} {w0 : World} {Λ : Nat → Option LI} {n0 : Nat} {H : Hd} {df : List Deferred} : ∀ n, (∀ m, m < n → AP P O w0 Λ n0 H df m) → ∀ (b : Code), Λ (keyOf b) = none → ∀ (M : List Blk) (ts : List SX) (k : Exit → List Blk → List SX → Prop), evCode P O w0 Λ n0 H n (.loop b) M ts k →
    ∀ (β : Env) (w : World) (Q : Exit → Act → World → Prop), Inv O w0 β M w → n0 ≤ M.length → (∀ e M' ts' β' w', k e M' ts' → Inv O w0 β' M' w' → GrN n0 M' β β' → Q e ⟨fr β' ts', df⟩ w') → Code.rounds P b Q n ⟨fr β ts, df⟩ w
  | 0, _, _, _, _, _, _, h, _, _, _, _, _, _ => h.elim
  | n + 1, hA, b, hb, M, ts, k, h, β, w, Q, hI, hn, hQ => by
    rw [rounds_succ]
    unfold evCode at h
    simp only [hb] at h
    refine hA n (by omega) b M ts _ h β w _ hI hn fun e M' ts' β' w' hk hI' hg => ?_
    cases e with
    | normal => exact rounds_of n (fun m hm => hA m (by omega)) b hb M' ts' k hk β' w' Q hI' hg.le fun e M2 ts2 β2 w2 h1 h2 h3 => hQ _ _ _ _ _ h1 h2 (hg.trans h3)
    | _ => exact hQ _ _ _ _ _ hk hI' hg
theorem evCode_sound {P : Program} {O : Nat → Prop} {w0 : World} {Λ : Nat → Option LI} {n0 : Nat} {H : Hd} (hH : HS P O w0 H) (df : List Deferred) (n : Nat) : AP P O w0 Λ n0 H df n := by
  induction n using Nat.strongRecOn with
  | _ n ih =>
  match n, ih with
  | 0, _ => exact fun c M ts k h => h.elim
  | n + 1, ih =>
    intro c M ts k h β w Q hI hn hQ
    have ih0 := ih n (by omega)
    have h0 := h
    unfold evCode at h
    split at h
    · exact wp_skip (hQ _ _ _ _ _ h hI (GrN.refl _ hn))
    · exact wp_label (hQ _ _ _ _ _ h hI (GrN.refl _ hn))
    · split at h
      · exact evJoin_sound hH h hI df fun M' ts' β' w' hk hI' hg => hQ _ _ _ _ _ (by rw [fcL_eq fcB_eq] at hk; exact hk) hI' (hg.toN hn)
      · exact evRegion_sound hH h hI df fun M' ts' β' w' hk hI' hg => hQ _ _ _ _ _ (by rw [fcL_eq fcB_eq] at hk; exact hk) hI' (hg.toN hn)
    · rename_i a b
      have mg : ∀ I : LInv, mergeE n0 I (evCode P O w0 Λ n0 H n a) (evCode P O w0 Λ n0 H n b) M ts k → (Code.seq a b).wp P Q ⟨fr β ts, df⟩ w := fun I h => by
        obtain ⟨hlen, hA, hB⟩ := h
        refine wp_seq (ih0 a M ts _ hA β w _ hI hn fun e M' ts' β' w' hk hI' hg => ?_)
        cases e with
        | normal =>
          obtain ⟨s, hp, _, J, β2, he, hI2, hx⟩ := fitC_sound hk hI'
          show b.wp P Q ⟨fr β' ts', df⟩ w'
          rw [he]
          exact ih0 b _ _ k (hB s J hp) β2 w' Q hI2 (hlen s hp) fun e M2 ts2 β3 w2 h1 h2 h3 => hQ _ _ _ _ _ h1 h2 ⟨h3.le, (hg.ext.trans hx).trans h3.ext⟩
        | _ => exact hQ _ _ _ _ _ hk hI' hg
      split at h
      · refine wp_seq (ih0 a M ts _ h β w _ hI hn fun e M' ts' β' w' hk hI' hg => ?_)
        cases e with
        | normal => exact ih0 b M' ts' k hk β' w' Q hI' hg.le fun e M2 ts2 β2 w2 h1 h2 h3 => hQ _ _ _ _ _ h1 h2 (hg.trans h3)
        | _ => exact hQ _ _ _ _ _ hk hI' hg
      · exact mg _ h
      · split at h
        · exact mg _ h
        · exact h.elim
      · exact h.elim
    · rename_i cc a b
      split at h
      · rename_i t ht
        cases t with
        | true => exact wp_cond (t := true) (by rw [rd_den, ht]; rfl) (ih0 a M ts k h β w Q hI hn hQ)
        | false => exact wp_cond (t := false) (by rw [rd_den, ht]; rfl) (ih0 b M ts k h β w Q hI hn hQ)
      · exact h.elim
    · rename_i id b
      refine wp_block (ih0 b M ts _ h β w _ hI hn fun e M' ts' β' w' hk hI' hg => ?_)
      cases e with
      | exit id' =>
        show if id' = id then Q .normal _ _ else Q (.exit id') _ _
        simp only at hk
        by_cases e : id' = id
        · rw [if_pos e]; rw [e, Nat.beq_refl] at hk; exact hQ _ _ _ _ _ hk hI' hg
        · rw [if_neg e]
          have : Nat.beq id' id = false := by
            cases hb : Nat.beq id' id with
            | false => rfl
            | true => exact absurd (Nat.eq_of_beq_eq_true hb) e
          rw [this] at hk; exact hQ _ _ _ _ _ hk hI' hg
      | _ => exact hQ _ _ _ _ _ hk hI' hg
    · rename_i b
      have one : ∀ I : LInv, loopI n0 I (evCode P O w0 Λ n0 H n b) M ts k → (Code.loop b).wp P Q ⟨fr β ts, df⟩ w := fun I h => by
        unfold loopI at h
        cases hex : I.ex with
        | true =>
          rw [hex] at h
          obtain ⟨hlen, hf0, hr⟩ := h
          have key : ∀ (m : Nat) (s : I.σ), I.μ s < m → I.pre s → ∀ (J : Nat → Value) (β' : Env) (w' : World), Inv O w0 β' (I.mem s) w' → Ext n0 β β' → Code.rounds P b Q m ⟨fr β' (I.tmp s J), df⟩ w' := by
            intro m
            induction m with
            | zero => exact fun s hs => absurd hs (by omega)
            | succ m ihm =>
              intro s hs hp J β' w' hI' hx
              rw [rounds_succ]
              refine ih0 b _ _ _ (hr s J hp) β' w' _ hI' (hlen s hp) fun e M2 ts2 β2 w2 hk hI2 hg => ?_
              have hx2 : Ext n0 β β2 := hx.trans hg.ext
              cases e with
              | normal =>
                obtain ⟨s', hp2, hm, J2, β3, he, hI3, hx3⟩ := fitC_sound hk hI2
                show Code.rounds P b Q m ⟨fr β2 ts2, df⟩ w2
                rw [he]
                exact ihm s' (by omega) hp2 J2 β3 w2 hI3 (hx2.trans hx3)
              | _ => exact hQ _ _ _ _ _ hk hI2 ⟨hg.le, hx2⟩
          obtain ⟨s0, hp0, _, J, β1, he, hI0, hx0⟩ := fitC_sound hf0 hI
          rw [he]
          exact wp_loop_rounds _ (key (I.μ s0 + 1) s0 (by omega) hp0 J β1 w hI0 hx0)
        | false =>
        rw [hex] at h
        obtain ⟨hlen, hf0, hr⟩ := h
        generalize I.read M ts = s0 at hf0
        have key : ∀ (m : Nat) (s : I.σ), I.μ s < m → I.pre s → ∀ (J : Nat → Value) (β' : Env) (w' : World), Inv O w0 β' (I.mem s) w' → Ext n0 β β' → Code.rounds P b Q m ⟨fr β' (I.tmp s J), df⟩ w' := by
          intro m
          induction m with
          | zero => exact fun s hs => absurd hs (by omega)
          | succ m ihm =>
            intro s hs hp J β' w' hI' hx
            rw [rounds_succ]
            refine ih0 b _ _ _ (hr s J hp) β' w' _ hI' (hlen s hp) fun e M2 ts2 β2 w2 hk hI2 hg => ?_
            have hx2 : Ext n0 β β2 := hx.trans hg.ext
            cases e with
            | normal =>
              obtain ⟨hf, ⟨hm⟩⟩ := hk
              generalize I.read M2 ts2 = s' at hf hm
              obtain ⟨hp2, J2, β3, he, hI3, hx3⟩ := fits_sound hf hI2
              show Code.rounds P b Q m ⟨fr β2 ts2, df⟩ w2
              rw [he]
              exact ihm s' (by omega) hp2 J2 β3 w2 hI3 (hx2.trans hx3)
            | _ => exact hQ _ _ _ _ _ hk hI2 ⟨hg.le, hx2⟩
        obtain ⟨hp0, J, β1, he, hI0, hx0⟩ := fits_sound hf0 hI
        rw [he]
        exact wp_loop_rounds _ (key (I.μ s0 + 1) s0 (by omega) hp0 J β1 w hI0 hx0)
      split at h
      · exact one _ h
      · split at h
        · exact one _ h
        · exact h.elim
      · exact h.elim
      · rename_i hb
        exact wp_loop_rounds (n + 1) (rounds_of (n + 1) ih b hb M ts k h0 β w Q hI hn hQ)
    · exact wp_exit (hQ _ _ _ _ _ h hI (GrN.refl _ hn))
    · exact wp_ret (hQ _ _ _ _ _ h hI (GrN.refl _ hn))
    · rename_i b
      refine wp_scope_straight (ih0 b M ts _ h β w _ hI hn fun e M' ts' β' w' hk hI' hg => ?_)
      cases e with
      | goto l => exact hk.elim
      | _ => exact hQ _ _ _ _ _ hk hI' hg
    · exact h.elim
/-! ### results -/
def resL (P : Program) (O : Nat → Prop) (w0 : World) (M : List Blk) (ts : List SX) : List ResultVar → (List SV → Prop) → Prop
  | [], k => k []
  | .tmp t :: r, k => (match ts.getD t undefX with
    | .v x => resL P O w0 M ts r (fun xs => k (x :: xs))
    | _ => False)
  | .cell a t :: r, k => ldX P O w0 M t (ts.getD a undefX) (fun y => match y with
    | .v x => resL P O w0 M ts r (fun xs => k (x :: xs))
    | _ => False)
def resX (P : Program) (O : Nat → Prop) (w0 : World) (fn : Func) (M : List Blk) (ts : List SX) (k : SX → Prop) : Prop :=
  resL P O w0 M ts fn.results.toList (fun xs => match xs with
    | [x] => k (.v x)
    | xs => k (.tup xs))
theorem fr_getD (β : Env) (ts : List SX) (t : Nat) : (fr β ts).getD t undef = (ts.getD t undefX).den β := by
  have := rd_den β ts [] (.tmp t)
  exact this
theorem asAddr_of_ld {P : Program} {w : World} {t : TypeId} {v y : Value} (h : (Instr.loadAt t v).run P w = .ok y w) : (do loadVar t (← asAddr v) : Sem Value).run P w = .ok y w := by
  unfold Instr.loadAt at h
  cases v with
  | pointer a =>
    cases a with
    | none => exact absurd h (by simp [Instr.sureAddr, stuck])
    | some a => exact h
  | _ => exact absurd h (by simp [Instr.sureAddr, stuck])
def resF (tmps : Array Value) : ResultVar → Sem Value
  | .tmp t => pure (tmps.getD t undef)
  | .cell a t => do loadVar t (← asAddr (tmps.getD a undef))
theorem resL_sound {P : Program} {O : Nat → Prop} {w0 : World} {M : List Blk} {ts : List SX} : ∀ (l : List ResultVar) (k : List SV → Prop), resL P O w0 M ts l k →
    ∃ xs, k xs ∧ ∀ (β : Env) (w : World), Inv O w0 β M w → (l.mapM (resF (fr β ts))).run P w = .ok (xs.map (·.den β)) w
  | [], k, h => ⟨[], h, fun β w _ => rfl⟩
  | .tmp t :: r, k, h => by
    unfold resL at h
    split at h
    · rename_i x hx
      obtain ⟨xs, hk, hr⟩ := resL_sound (O := O) (w0 := w0) r _ h
      refine ⟨_, hk, fun β w hI => ?_⟩
      rw [List.mapM_cons]
      simp only [Sem.run_bind, resF, fr_getD, hx, Sem.run_pure, Result.andThen_ok, hr β w hI]
      rfl
    · exact h.elim
  | .cell a t :: r, k, h => by
    unfold resL at h
    obtain ⟨y, hk, hy⟩ := ldX_sound h
    split at hk
    · rename_i x
      obtain ⟨xs, hk2, hr⟩ := resL_sound (O := O) (w0 := w0) r _ hk
      refine ⟨_, hk2, fun β w hI => ?_⟩
      have hl := asAddr_of_ld (hy β w hI)
      rw [List.mapM_cons, Sem.run_bind]
      have e : resF (fr β ts) (.cell a t) = (do loadVar t (← asAddr ((ts.getD a undefX).den β)) : Sem Value) := by simp only [resF, fr_getD]
      rw [e, hl]
      simp only [Result.andThen_ok, Sem.run_bind, hr β w hI, Sem.run_pure]
      rfl
    · exact hk.elim
theorem resX_sound {P : Program} {O : Nat → Prop} {w0 : World} {M : List Blk} {ts : List SX} {fn : Func} {k : SX → Prop} (h : resX P O w0 fn M ts k) :
    ∃ x, k x ∧ ∀ (β : Env) (w : World), Inv O w0 β M w → (results fn (fr β ts)).run P w = .ok (x.den β) w := by
  unfold resX at h
  obtain ⟨xs, hk, hr⟩ := resL_sound (O := O) (w0 := w0) _ _ h
  have hall : ∀ (β : Env) (w : World), Inv O w0 β M w → (results fn (fr β ts)).run P w = .ok (if h : (xs.map (·.den β)).toArray.size = 1 then (xs.map (·.den β)).toArray[0] else .tuple (xs.map (·.den β)).toArray) w := fun β w hI => by
    have hm : fn.results.mapM (resF (fr β ts)) = List.toArray <$> fn.results.toList.mapM (resF (fr β ts)) := Array.mapM_eq_mapM_toList
    have e : results fn (fr β ts) = (do
        let vs ← fn.results.mapM (resF (fr β ts))
        pure (if h : vs.size = 1 then vs[0] else .tuple vs)) := by
      unfold results
      congr 1
    rw [e, Sem.run_bind, hm, Sem.run_map, hr β w hI]
    rfl
  split at hk
  · rename_i x
    exact ⟨_, hk, fun β w hI => by rw [hall β w hI]; rfl⟩
  · rename_i hne
    refine ⟨_, hk, fun β w hI => ?_⟩
    rw [hall β w hI, dif_neg (by
      intro h1
      rw [List.size_toArray, List.length_map] at h1
      match xs, h1 with
      | [x], _ => exact hne x rfl)]
    rfl
/-! ### functions -/
abbrev Tab := FuncId → Option (List SX → List Blk → (SX → List Blk → Prop) → Prop)
/-- From this number on a number is the mark of a function that writes what stood. -/
def PK : Nat := 2000000000
def pureT (Γ : Tab) (f : FuncId) : Bool := (Γ f).isSome && !(Γ (PK + f)).isSome
def TS (P : Program) (O : Nat → Prop) (w0 : World) (Γ : Tab) : Prop :=
  ∀ f g, Γ f = some g → (f < GK → ∀ args M k, g args M k → memLt M.length M = true → ∀ β w, Inv O w0 β M w → Calls P f (fr β args) w (fun e w' => ∃ x M' β', k x M' ∧ e = .returned (x.den β') ∧ Inv O w0 β' M' w' ∧ Grow M M' β β' ∧ ((Γ (PK + f)).isSome = false → Kept w w'))) ∧
    ∀ n, f = GK + n → ∀ args M k, g args M k → ∃ x, (∀ β, x.den β = .pointer (some ⟨n, 0, none⟩)) ∧ k x M
def evFn (P : Program) (O : Nat → Prop) (w0 : World) (Γ : Tab) (Λ : FuncId → Nat → Option LI) (m : Nat) : Nat → Hand
  | 0 => fun _ _ _ _ => False
  | n + 1 => fun f args M k => match Γ f with
    | some g => g args M k
    | none => bif Nat.blt f GK then (match P.funcs[f]? with
      | some fn => (match fn.body with
        | some c => fcL fcX (args ++ List.replicate (fn.ntmps - args.length) undefX) (fun ts => evCode P O w0 (fun j => bif Nat.ble MK j then Λ (MKF + f) (j - MK) else Λ f j) M.length ⟨evFn P O w0 Γ Λ m n, pureT Γ⟩ m c M ts (fun e M' ts' => match e with
          | .normal => resX P O w0 fn M' ts' (fun x => k x M')
          | .ret => resX P O w0 fn M' ts' (fun x => k x M')
          | _ => False))
        | none => False)
      | none => False) else False
theorem evFn_sound {P : Program} {O : Nat → Prop} {w0 : World} {Γ : Tab} (hΓ : TS P O w0 Γ) (Λ : FuncId → Nat → Option LI) (m : Nat) : ∀ n, HS P O w0 ⟨evFn P O w0 Γ Λ m n, pureT Γ⟩
  | 0 => ⟨fun _ _ _ _ _ h => h.elim, fun _ _ _ h => h.elim⟩
  | n + 1 => ⟨fun f args M k hf h hmlt β w hI => by
    have h : evFn P O w0 Γ Λ m (n + 1) f args M k := h
    unfold evFn at h
    split at h
    · rename_i g hg
      refine ((hΓ f g hg).1 hf args M k h hmlt β w hI).mono ?_
      rintro e w' ⟨x, M', β', hk, he, hI', hgr, hp⟩
      exact ⟨x, M', β', hk, he, hI', hgr, fun hpu => hp (by
        have hpu : pureT Γ f = true := hpu
        unfold pureT at hpu
        simp only [Bool.and_eq_true, Bool.not_eq_true'] at hpu
        exact hpu.2)⟩
    · rename_i hnone
      have hnp : pureT Γ f = true → ∀ w', Kept w w' := fun hp => by unfold pureT at hp; rw [hnone] at hp; cases hp
      rw [show Nat.blt f GK = true by simpa using hf] at h
      simp only [cond_true] at h
      split at h
      · rename_i fn hf
        split at h
        · rename_i c hc
          rw [fcL_eq fcX_eq] at h
          refine calls_of_wp hf hc ?_
          have e0 : fr β args ++ Array.replicate (fn.ntmps - (fr β args).size) undef = fr β (args ++ List.replicate (fn.ntmps - args.length) undefX) := by
            apply Array.toList_inj.1
            unfold fr
            simp only [Array.toList_append, List.map_append, List.size_toArray, List.length_map, List.map_replicate, Array.toList_replicate]
            rfl
          rw [e0]
          refine evCode_sound (evFn_sound hΓ Λ m n) [] m c M _ _ h β w _ hI (Nat.le_refl _) fun e M' ts' β' w' hk hI' hg => ?_
          cases e with
          | normal =>
            obtain ⟨x, hx, hr⟩ := resX_sound (O := O) (w0 := w0) hk
            exact ⟨rfl, _, hr β' w' hI', x, M', β', hx, rfl, hI', ⟨hg.le, hg.ext⟩, fun hp => hnp hp w'⟩
          | ret =>
            obtain ⟨x, hx, hr⟩ := resX_sound (O := O) (w0 := w0) hk
            exact ⟨rfl, _, hr β' w' hI', x, M', β', hx, rfl, hI', ⟨hg.le, hg.ext⟩, fun hp => hnp hp w'⟩
          | _ => exact hk.elim
        · exact h.elim
      · exact h.elim, fun g M k h => by
    have h : evFn P O w0 Γ Λ m (n + 1) (GK + g) [] M k := h
    unfold evFn at h
    split at h
    · rename_i e he
      exact (hΓ _ e he).2 g rfl [] M k h
    · have : Nat.blt (GK + g) GK = false := by
        cases hb : Nat.blt (GK + g) GK with
        | false => rfl
        | true => have : GK + g < GK := by simpa using hb
                  omega
      rw [this] at h
      exact h.elim⟩

/-! ### tables of contracts -/
def addT (Γ : Tab) (f : FuncId) (g : List SX → List Blk → (SX → List Blk → Prop) → Prop) : Tab := fun x => bif Nat.beq x f then some g else Γ x
def EntryW (P : Program) (O : Nat → Prop) (w0 : World) (f : FuncId) (g : List SX → List Blk → (SX → List Blk → Prop) → Prop) : Prop :=
  f < GK → ∀ args M k, g args M k → memLt M.length M = true → ∀ β w, Inv O w0 β M w → Calls P f (fr β args) w (fun e w' => ∃ x M' β', k x M' ∧ e = .returned (x.den β') ∧ Inv O w0 β' M' w' ∧ Grow M M' β β')
def Entry (P : Program) (O : Nat → Prop) (w0 : World) (f : FuncId) (g : List SX → List Blk → (SX → List Blk → Prop) → Prop) : Prop :=
  f < GK → ∀ args M k, g args M k → memLt M.length M = true → ∀ β w, Inv O w0 β M w → Calls P f (fr β args) w (fun e w' => ∃ x M' β', k x M' ∧ e = .returned (x.den β') ∧ Inv O w0 β' M' w' ∧ Grow M M' β β' ∧ Kept w w')
theorem TS.none (P : Program) (O : Nat → Prop) (w0 : World) : TS P O w0 (fun _ => none) := fun _ _ h => by cases h
theorem TS.add {P : Program} {O : Nat → Prop} {w0 : World} {Γ : Tab} {f : FuncId} {g : List SX → List Blk → (SX → List Blk → Prop) → Prop} (h : TS P O w0 Γ) (hg : Entry P O w0 f g) (hf : f < GK) : TS P O w0 (addT Γ f g) := fun x g2 h2 => by
  have hmark : ∀ y, y < GK → ((addT Γ f g) (PK + y)).isSome = (Γ (PK + y)).isSome := fun y hy => by
    unfold addT
    have : Nat.beq (PK + y) f = false := by
      cases hb : Nat.beq (PK + y) f with
      | false => rfl
      | true =>
        have e : PK + y = f := Nat.eq_of_beq_eq_true hb
        exact absurd hf (Nat.not_lt.2 (e ▸ Nat.le_trans (Nat.le_of_lt (show GK < PK by decide)) (Nat.le_add_right PK y)))
    rw [this]; rfl
  unfold addT at h2
  cases hx : Nat.beq x f with
  | true =>
    rw [hx] at h2; cases h2; rw [Nat.eq_of_beq_eq_true hx]
    refine ⟨fun _ args M k hk hm β w hI => (hg hf args M k hk hm β w hI).mono ?_, fun n hn => absurd (hn ▸ hf) (Nat.not_lt.2 (Nat.le_add_right GK n))⟩
    rintro e w' ⟨x, M', β', h1, h2, h3, h4, h5⟩
    exact ⟨x, M', β', h1, h2, h3, h4, fun _ => h5⟩
  | false =>
    rw [hx] at h2
    refine ⟨fun hlt args M k hk hm β w hI => ((h x g2 h2).1 hlt args M k hk hm β w hI).mono ?_, (h x g2 h2).2⟩
    rintro e w' ⟨x2, M', β', h1, h2, h3, h4, h5⟩
    exact ⟨x2, M', β', h1, h2, h3, h4, fun hp => h5 (by rw [← hmark x hlt]; exact hp)⟩
def markW (Γ : Tab) (f : FuncId) : Tab := addT Γ (PK + f) (fun _ _ _ => False)
theorem TS.addW {P : Program} {O : Nat → Prop} {w0 : World} {Γ : Tab} {f : FuncId} {g : List SX → List Blk → (SX → List Blk → Prop) → Prop} (h : TS P O w0 Γ) (hg : EntryW P O w0 f g) (hf : f < GK) : TS P O w0 (markW (addT Γ f g) f) := fun x g2 h2 => by
  have hPG : GK < PK := by decide
  have hmark : ∀ y, y < GK → y ≠ f → ((markW (addT Γ f g) f) (PK + y)).isSome = (Γ (PK + y)).isSome := fun y hy hne => by
    unfold markW addT
    have h1 : Nat.beq (PK + y) (PK + f) = false := by
      cases hb : Nat.beq (PK + y) (PK + f) with
      | false => rfl
      | true => exact absurd (Nat.add_left_cancel (Nat.eq_of_beq_eq_true hb)) hne
    have h2 : Nat.beq (PK + y) f = false := by
      cases hb : Nat.beq (PK + y) f with
      | false => rfl
      | true =>
        have e : PK + y = f := Nat.eq_of_beq_eq_true hb
        exact absurd hf (Nat.not_lt.2 (e ▸ Nat.le_trans (Nat.le_of_lt hPG) (Nat.le_add_right PK y)))
    rw [h1, h2]; rfl
  have hself : ((markW (addT Γ f g) f) (PK + f)).isSome = true := by unfold markW addT; rw [Nat.beq_refl]; rfl
  unfold markW at h2
  unfold addT at h2
  cases hx : Nat.beq x (PK + f) with
  | true =>
    rw [hx] at h2; cases h2; rw [Nat.eq_of_beq_eq_true hx]
    exact ⟨fun hlt => absurd hlt (Nat.not_lt.2 (Nat.le_trans (Nat.le_of_lt hPG) (Nat.le_add_right PK f))), fun n hn args M k hk => hk.elim⟩
  | false =>
    rw [hx] at h2
    cases hx2 : Nat.beq x f with
    | true =>
      rw [hx2] at h2; cases h2; rw [Nat.eq_of_beq_eq_true hx2]
      refine ⟨fun _ args M k hk hm β w hI => (hg hf args M k hk hm β w hI).mono ?_, fun n hn => absurd (hn ▸ hf) (Nat.not_lt.2 (Nat.le_add_right GK n))⟩
      rintro e w' ⟨x, M', β', h1, h2, h3, h4⟩
      exact ⟨x, M', β', h1, h2, h3, h4, fun hp => by rw [hself] at hp; cases hp⟩
    | false =>
      rw [hx2] at h2
      refine ⟨fun hlt args M k hk hm β w hI => ((h x g2 h2).1 hlt args M k hk hm β w hI).mono ?_, (h x g2 h2).2⟩
      rintro e w' ⟨x2, M', β', h1, h2, h3, h4, h5⟩
      exact ⟨x2, M', β', h1, h2, h3, h4, fun hp => h5 (by rw [← hmark x hlt (fun e => by rw [e, Nat.beq_refl] at hx2; cases hx2)]; exact hp)⟩
theorem Entry.of {P : Program} {O : Nat → Prop} {w0 : World} {Γ : Tab} (hΓ : TS P O w0 Γ) (m n : Nat) {f : FuncId} {g : List SX → List Blk → (SX → List Blk → Prop) → Prop}
    (h : ∀ args M k, g args M k → ∃ args', (∀ β, fr β args' = fr β args) ∧ ∃ Λ, evFn P O w0 Γ Λ m n f args' M k) : EntryW P O w0 f g := fun hf args M k hg hmlt β w hI => by
  obtain ⟨args', he, Λ, hev⟩ := h args M k hg
  rw [← he β]
  refine ((evFn_sound hΓ Λ m n).1 f args' M k hf hev hmlt β w hI).mono ?_
  rintro e w' ⟨x, M', β', h1, h2, h3, h4, _⟩
  exact ⟨x, M', β', h1, h2, h3, h4⟩
theorem Inv.nil (w : World) (β : Env) : Inv (fun _ => False) w β [] w :=
  ⟨fun i e cs hi => by simp at hi, fun i e sz n f hi => by simp at hi, fun i j a b hi => by simp at hi, Fr.refl _ _, fun i a hi => by simp at hi, fun i Q hi => by simp at hi, fun i Q hi => by simp at hi⟩
/-- A call from a world of which nothing is known: what it returns, and that what stood stands. -/
theorem ev_calls {P : Program} {w : World} {Γ : Tab} (hΓ : TS P (fun _ => False) w Γ) (Λ : FuncId → Nat → Option LI) (m n : Nat) {f : FuncId} {args : List SX} {K : Value → Prop}
    {k : SX → List Blk → Prop} (hf : f < GK) (h : evFn P (fun _ => False) w Γ Λ m n f args [] k) (hk : ∀ x M β, k x M → K (x.den β)) :
    Calls P f (fr nob args) w (fun e w' => ∃ v, e = .returned v ∧ K v ∧ Below w.heap.size w w') := by
  refine ((evFn_sound hΓ Λ m n).1 f args [] k hf h rfl nob w (Inv.nil w nob)).mono ?_
  rintro e w' ⟨x, M', β', hx, rfl, hI', _, _⟩
  exact ⟨_, rfl, hk x M' β' hx, hI'.fr.os, hI'.fr.tape, hI'.fr.output, hI'.fr.size, fun r hr => hI'.fr.block r hr (fun h => h)⟩
/-- What is at hand stands behind a call that writes nothing that stood. -/
theorem Inv.after {O : Nat → Prop} {w0 w w' : World} {β : Env} {M : List Blk} (h : Inv O w0 β M w) (hf : Fr (fun _ => False) w w') : Inv O w0 β M w' := by
  have hk : ∀ {i : Nat} {a : Blk}, M[i]? = some a → a.real β i → w'.heap[β i]? = w.heap[β i]? := fun hi hr => hf.block _ (h.lt hi hr) (fun h => h)
  exact ⟨fun i e cs hi => by rw [hk hi trivial]; exact h.at_ i e cs hi, fun i e sz n f hi => (h.ls i e sz n f hi).kept rfl rfl (fun hr => hk hi hr), h.inj,
    ⟨hf.os.trans h.fr.os, hf.tape.trans h.fr.tape, hf.output.trans h.fr.output, Nat.le_trans h.fr.size hf.size, fun r hr ho => by rw [hf.block r (Nat.lt_of_lt_of_le hr h.fr.size) (fun h => h)]; exact h.fr.block r hr ho⟩, h.low,
    fun i Q hi => (h.ab i Q hi).kept (hk hi trivial), fun i Q hi => (h.fz i Q hi).step (Nat.le_refl _) hf.size fun r _ h2 h3 => ⟨hf.block r h2 (fun h => h), h3⟩⟩
/-! ### two memories beside each other -/
def shC (d : Nat) : SC → SC
  | .ptr b off => .ptr (d + b) off
  | .sl b off len cap => .sl (d + b) off len cap
  | .clo f caps => .clo f (caps.map fun p => (d + p.1, p.2))
  | .lst b => .lst (d + b)
  | .lsub b sz lo n => .lsub (d + b) sz lo n
  | .ep b sz i off => .ep (d + b) sz i off
  | .mpv b => .mpv (d + b)
  | x => x
def shS (d : Nat) : SV → SV
  | .c x => .c (shC d x)
  | .agg cs => .agg (cs.map (shC d))
def shX (d : Nat) : SX → SX
  | .v x => .v (shS d x)
  | .tup vs => .tup (vs.map (shS d))
def shB (d : Nat) : Blk → Blk
  | .mk e cs => .mk e (cs.map (shC d))
  | .lst e sz n f => .lst e sz n f
  | .dead => .dead
  | .ab Q => .ab Q
  | .fz Q => .fz Q
def envJ (d : Nat) (β β' : Env) : Env := ⟨fun i => if i < d then β i else β' (i - d), fun i => if i < d then β.v i else β'.v (i - d)⟩
theorem envJ_lt {d i : Nat} {β β' : Env} (h : i < d) : envJ d β β' i = β i ∧ (envJ d β β').v i = β.v i := by
  constructor
  · show (if i < d then β i else β' (i - d)) = _; rw [if_pos h]
  · show (if i < d then β.v i else β'.v (i - d)) = _; rw [if_pos h]
theorem envJ_ge {d : Nat} {β β' : Env} (i : Nat) : envJ d β β' (d + i) = β' i ∧ (envJ d β β').v (d + i) = β'.v i := by
  have h : ¬ d + i < d := by omega
  have e : d + i - d = i := by omega
  constructor
  · show (if d + i < d then β (d + i) else β' (d + i - d)) = _; rw [if_neg h, e]
  · show (if d + i < d then β.v (d + i) else β'.v (d + i - d)) = _; rw [if_neg h, e]
theorem shC_den (d : Nat) (β β' : Env) (x : SC) : (shC d x).den (envJ d β β') = x.den β' := by
  cases x with
  | ptr b off => simp only [shC, SC.den, (envJ_ge b).1]
  | sl b off len cap => simp only [shC, SC.den, (envJ_ge b).1]
  | lst b => simp only [shC, SC.den, Env.sv, (envJ_ge b).2]
  | lsub b => simp only [shC, SC.den, (envJ_ge b).2]
  | ep b => simp only [shC, SC.den, (envJ_ge b).2]
  | mpv b => simp only [shC, SC.den, (envJ_ge b).1]
  | clo f caps =>
    simp only [shC, SC.den, List.map_map]
    congr 2
    refine List.map_congr_left fun p _ => ?_
    simp only [Function.comp_apply, (envJ_ge p.1).1]
  | _ => rfl
theorem shS_den (d : Nat) (β β' : Env) (x : SV) : (shS d x).den (envJ d β β') = x.den β' := by
  cases x with
  | c x => exact shC_den d β β' x
  | agg cs =>
    simp only [shS, SV.den, List.map_map]
    congr 2
    exact List.map_congr_left fun y _ => shC_den d β β' y
theorem shX_den (d : Nat) (β β' : Env) (x : SX) : (shX d x).den (envJ d β β') = x.den β' := by
  cases x with
  | v x => exact shS_den d β β' x
  | tup vs =>
    simp only [shX, SX.den, List.map_map]
    congr 2
    exact List.map_congr_left fun y _ => shS_den d β β' y
theorem get_join {M N : List Blk} {d : Nat} (hd : d = M.length) {i : Nat} {a : Blk} (h : (M ++ N.map (shB d))[i]? = some a) : (i < d ∧ M[i]? = some a) ∨ ∃ j b, i = d + j ∧ N[j]? = some b ∧ a = shB d b := by
  subst hd
  rcases Nat.lt_or_ge i M.length with hi | hi
  · rw [List.getElem?_append_left hi] at h; exact .inl ⟨hi, h⟩
  · rw [List.getElem?_append_right hi, List.getElem?_map] at h
    cases hn : N[i - M.length]? with
    | none => rw [hn] at h; cases h
    | some b => rw [hn] at h; cases h; exact .inr ⟨i - M.length, b, by omega, hn, rfl⟩
theorem real_sh {d j : Nat} {β β' : Env} {b : Blk} : (shB d b).real (envJ d β β') (d + j) ↔ b.real β' j := by
  cases b with
  | mk => exact Iff.rfl
  | lst => unfold shB Blk.real; rw [(envJ_ge j).2]
  | dead => exact Iff.rfl
  | ab => exact Iff.rfl
  | fz => exact Iff.rfl
theorem real_lt {d j : Nat} {β β' : Env} {b : Blk} (h : j < d) : b.real (envJ d β β') j ↔ b.real β j := by
  cases b with
  | mk => exact Iff.rfl
  | lst => unfold Blk.real; rw [(envJ_lt h).2]
  | dead => exact Iff.rfl
  | ab => exact Iff.rfl
  | fz => exact Iff.rfl
theorem Ext.join (d : Nat) (β β' : Env) : Ext d β (envJ d β β') := fun _ hi => envJ_lt hi
/-- A memory and what a call has made. -/
theorem Inv.join {O : Nat → Prop} {w0 w w' : World} {β β' : Env} {M N : List Blk} (h : Inv O w0 β M w) (hM : memLt M.length M = true) (h' : Inv (fun _ => False) w β' N w') : Inv O w0 (envJ M.length β β') (M ++ N.map (shB M.length)) w' := by
  have ha := h.after h'.fr
  have hlow : ∀ {j : Nat} {b : Blk}, N[j]? = some b → b.real β' j → w.heap.size ≤ β' j := fun hj hr => by
    rcases h'.low _ _ hj hr with h1 | h1
    · exact h1
    · exact h1.elim
  have shmk : ∀ {d : Nat} {b : Blk} {e : TypeId} {cs : List SC}, Blk.mk e cs = shB d b → ∃ cs0, b = .mk e cs0 ∧ cs = cs0.map (shC d) := fun {d b e cs} hb => by
    cases b with
    | mk e0 cs0 => cases hb; exact ⟨cs0, rfl, rfl⟩
    | _ => cases hb
  have shls : ∀ {d : Nat} {b : Blk} {e : TypeId} {sz n : Nat} {f : Nat → List SC}, Blk.lst e sz n f = shB d b → b = .lst e sz n f := fun {d b e sz n f} hb => by
    cases b with
    | lst => cases hb; rfl
    | _ => cases hb
  have shab : ∀ {d : Nat} {b : Blk} {Q : AbQ}, Blk.ab Q = shB d b → b = Blk.ab Q := fun {d b Q} hb => by
    cases b with
    | ab => cases hb; rfl
    | _ => cases hb
  have shfz : ∀ {d : Nat} {b : Blk} {Q : World → Prop}, Blk.fz Q = shB d b → b = Blk.fz Q := fun {d b Q} hb => by
    cases b with
    | fz => cases hb; rfl
    | _ => cases hb
  refine ⟨fun i e cs hi => ?_, fun i e sz n f hi => ?_, fun i j a b hi hj hr hs he => ?_, ha.fr, fun i a hi hr => ?_, fun i Q hi => ?_, fun i Q hi => ?_⟩
  rotate_right
  · rcases get_join rfl hi with ⟨hlt, hi⟩ | ⟨j, b, rfl, hj, hb⟩
    · refine (h.fz i Q hi).step (Nat.le_refl _) h'.fr.size fun r _ h2 h3 => ⟨h'.fr.block r h2 (fun h => h), fun j a hj hr => ?_⟩
      rcases get_join rfl hj with ⟨hjl, hj⟩ | ⟨j, b, rfl, hj2, rfl⟩
      · rw [(envJ_lt hjl).1]; exact h3 j a hj ((real_lt hjl).1 hr)
      · rw [(envJ_ge j).1]; have := hlow hj2 (real_sh.1 hr); omega
    · obtain rfl := shfz hb
      refine (h'.fz j Q hj).step h.fr.size (Nat.le_refl _) fun r h1 h2 h3 => ⟨rfl, fun j2 a hj2 hr => ?_⟩
      rcases get_join rfl hj2 with ⟨hjl, hj2⟩ | ⟨j2, b, rfl, hj3, rfl⟩
      · rw [(envJ_lt hjl).1]; have := h.lt hj2 ((real_lt hjl).1 hr); omega
      · rw [(envJ_ge j2).1]; exact h3 j2 b hj3 (real_sh.1 hr)
  rotate_right
  · rcases get_join rfl hi with ⟨hlt, hi⟩ | ⟨j, b, rfl, hj, hb⟩
    · rw [(envJ_lt hlt).1]; exact ha.ab i Q hi
    · obtain rfl := shab hb
      rw [(envJ_ge j).1]; exact h'.ab j Q hj
  · rcases get_join rfl hi with ⟨hlt, hi⟩ | ⟨j, b, rfl, hj, hb⟩
    · rw [(envJ_lt hlt).1, ha.at_ i e cs hi, cells_ext (Ext.join _ β β') (memLt_at hM hi)]
    · obtain ⟨cs0, rfl, rfl⟩ := shmk hb
      rw [(envJ_ge j).1, h'.at_ j e cs0 hj, List.map_map]
      have : ((fun x : SC => x.den (envJ M.length β β')) ∘ shC M.length) = fun x => x.den β' := funext (shC_den M.length β β')
      rw [this]
  · rcases get_join rfl hi with ⟨hlt, hi⟩ | ⟨j, b, rfl, hj, hb⟩
    · exact (ha.ls i e sz n f hi).kept (envJ_lt hlt).1 (envJ_lt hlt).2 (fun _ => rfl)
    · obtain rfl := shls hb
      have := h'.ls j e sz n f hj
      exact this.kept (β' := envJ M.length β β') (i' := M.length + j) (envJ_ge j).1 (envJ_ge j).2 (w' := w') (fun _ => rfl)
  · rcases get_join rfl hi with ⟨hil, hi⟩ | ⟨i, a, rfl, hi2, rfl⟩ <;> rcases get_join rfl hj with ⟨hjl, hj⟩ | ⟨j, b, rfl, hj2, rfl⟩
    · rw [real_lt hil] at hr; rw [real_lt hjl] at hs
      rw [(envJ_lt hil).1, (envJ_lt hjl).1] at he
      exact h.inj i j a b hi hj hr hs he
    · rw [real_lt hil] at hr; rw [real_sh] at hs
      rw [(envJ_lt hil).1, (envJ_ge j).1] at he
      have h1 := h.lt hi hr
      have h2 := hlow hj2 hs
      omega
    · rw [real_lt hjl] at hs; rw [real_sh] at hr
      rw [(envJ_lt hjl).1, (envJ_ge i).1] at he
      have h1 := h.lt hj hs
      have h2 := hlow hi2 hr
      omega
    · rw [real_sh] at hr hs
      rw [(envJ_ge i).1, (envJ_ge j).1] at he
      rw [h'.inj i j a b hi2 hj2 hr hs he]
  · rcases get_join rfl hi with ⟨hil, hi⟩ | ⟨i, a, rfl, hi2, rfl⟩
    · rw [real_lt hil] at hr
      rw [(envJ_lt hil).1]; exact h.low i a hi hr
    · rw [real_sh] at hr
      rw [(envJ_ge i).1]
      exact .inl (Nat.le_trans h.fr.size (hlow hi2 hr))
abbrev TabF := (Nat → Prop) → World → Tab
def TSF (P : Program) (Γ : TabF) : Prop := ∀ O w0, TS P O w0 (Γ O w0)
abbrev EntF := (Nat → Prop) → World → List SX → List Blk → (SX → List Blk → Prop) → Prop
def addF (Γ : TabF) (f : FuncId) (g : EntF) : TabF := fun O w0 => addT (Γ O w0) f (g O w0)
theorem TSF.none (P : Program) : TSF P (fun _ _ _ => none) := fun O w0 => TS.none P O w0
theorem TSF.add {P : Program} {Γ : TabF} {f : FuncId} {g : EntF} (h : TSF P Γ) (hg : ∀ O w0, Entry P O w0 f (g O w0)) (hf : Nat.blt f GK = true := by rfl) : TSF P (addF Γ f g) := fun O w0 => TS.add (h O w0) (hg O w0) (by simpa using hf)
/-- A function that writes what stood. -/
def addW (Γ : TabF) (f : FuncId) (g : EntF) : TabF := fun O w0 => markW (addT (Γ O w0) f (g O w0)) f
theorem TSF.addW {P : Program} {Γ : TabF} {f : FuncId} {g : EntF} (h : TSF P Γ) (hg : ∀ O w0, EntryW P O w0 f (g O w0)) (hf : Nat.blt f GK = true := by rfl) : TSF P (Eng.addW Γ f g) := fun O w0 => TS.addW (h O w0) (hg O w0) (by simpa using hf)
/-- A package-level variable: what its cells are is told by rows that came in. -/
def EntryG (n : Nat) (g : EntF) : Prop := ∀ O w0 args M k, g O w0 args M k → ∃ x, (∀ β, x.den β = .pointer (some ⟨n, 0, none⟩)) ∧ k x M
theorem TSF.addG {P : Program} {Γ : TabF} {n : Nat} {g : EntF} (h : TSF P Γ) (hg : EntryG n g) (hn : Nat.blt n GK = true := by rfl) : TSF P (addF Γ (GK + n) g) := fun O w0 x g2 h2 => by
  have hn : n < GK := by simpa using hn
  have hPG : PK = GK + GK := by decide
  unfold addF at h2
  have hmark : ∀ y, ((addF Γ (GK + n) g O w0) (PK + y)).isSome = (Γ O w0 (PK + y)).isSome := fun y => by
    unfold addF addT
    have : Nat.beq (PK + y) (GK + n) = false := by
      cases hb : Nat.beq (PK + y) (GK + n) with
      | false => rfl
      | true => have e := Nat.eq_of_beq_eq_true hb; omega
    rw [this]; rfl
  unfold addT at h2
  cases hx : Nat.beq x (GK + n) with
  | true =>
    rw [hx] at h2; cases h2; rw [Nat.eq_of_beq_eq_true hx]
    refine ⟨fun hlt => absurd hlt (Nat.not_lt.2 (Nat.le_add_right GK n)), fun m hm args M k hk => ?_⟩
    have : m = n := (Nat.add_left_cancel hm).symm
    subst this
    exact hg O w0 args M k hk
  | false =>
    rw [hx] at h2
    refine ⟨fun hlt args M k hk hm β w hI => ((h O w0 x g2 h2).1 hlt args M k hk hm β w hI).mono ?_, (h O w0 x g2 h2).2⟩
    rintro e w' ⟨x2, M', β', h1, h2, h3, h4, h5⟩
    exact ⟨x2, M', β', h1, h2, h3, h4, fun hp => h5 (by rw [← hmark x]; exact hp)⟩
theorem RowAt.at {O : Nat → Prop} {w0 w : World} {A : Option Addr} {sz j : Nat} {cs : List SC} (h : RowAt O w0 A sz cs j) (hf : Fr O w0 w) : RowAt (fun _ => False) w A sz cs j := by
  obtain ⟨⟨a, hA, hb, hO, hl, hc⟩⟩ := h
  refine ⟨⟨a, hA, Nat.lt_of_lt_of_le hb hf.size, fun h => h, hl, fun i c hi => ?_⟩⟩
  have hb2 : (a.add (j * sz + i)).block = a.block := by unfold Addr.add; split <;> rfl
  rw [hf.cell (by rw [hb2]; exact hb) (by rw [hb2]; exact hO)]
  exact hc i c hi
/-- A function that only reckons: its text is gone through from a memory of its own. -/
theorem Entry.pure {P : Program} {Γ : TabF} (hΓ : TSF P Γ) (m n : Nat) {f : FuncId} {g : EntF}
    (h : ∀ O w0 args M k, g O w0 args M k → ∃ x args', x.lt 0 = true ∧ k x M ∧ (∀ β, fr β args' = fr β args) ∧ ∀ w, Fr O w0 w → ∃ Λ, evFn P (fun _ => False) w (Γ (fun _ => False) w) Λ m n f args' [] (fun y _ => y = x)) :
    ∀ O w0, Entry P O w0 f (g O w0) := fun O w0 hf args M k hg hmlt β w hI => by
  obtain ⟨x, args', hx, hk, he, hev⟩ := h O w0 args M k hg
  obtain ⟨Λ, hev⟩ := hev w hI.fr
  have hI0 := Inv.nil w β
  rw [← he β]
  refine ((evFn_sound (hΓ _ w) Λ m n).1 f args' [] _ hf hev rfl β w hI0).mono ?_
  rintro e w' ⟨y, M', β', rfl, rfl, hI', _, _⟩
  exact ⟨y, M, β, hk, by rw [← den_nob hx β', ← den_nob hx β], hI.after hI'.fr, Grow.refl _ _, fun r hr => hI'.fr.block r hr (fun h => h)⟩
/-- As Entry.pure; what is returned need only be worth what is told. -/
theorem Entry.pureD {P : Program} {Γ : TabF} (hΓ : TSF P Γ) (m n : Nat) {f : FuncId} {g : EntF}
    (h : ∀ O w0 args M k, g O w0 args M k → ∃ x args', x.lt 0 = true ∧ k x M ∧ (∀ β, fr β args' = fr β args) ∧ ∀ w, Fr O w0 w → ∃ Λ, evFn P (fun _ => False) w (Γ (fun _ => False) w) Λ m n f args' [] (fun y _ => ∀ β, y.den β = x.den β)) :
    ∀ O w0, Entry P O w0 f (g O w0) := fun O w0 hf args M k hg hmlt β w hI => by
  obtain ⟨x, args', hx, hk, he, hev⟩ := h O w0 args M k hg
  obtain ⟨Λ, hev⟩ := hev w hI.fr
  have hI0 := Inv.nil w β
  rw [← he β]
  refine ((evFn_sound (hΓ _ w) Λ m n).1 f args' [] _ hf hev rfl β w hI0).mono ?_
  rintro e w' ⟨y, M', β', hy, rfl, hI', _, _⟩
  exact ⟨x, M, β, hk, by rw [hy β', ← den_nob hx β', ← den_nob hx β], hI.after hI'.fr, Grow.refl _ _, fun r hr => hI'.fr.block r hr (fun h => h)⟩
/-- As Entry.pureD; the arguments may be lists of the memory at hand. -/
theorem Entry.pureM {P : Program} {Γ : TabF} (hΓ : TSF P Γ) (m n : Nat) {f : FuncId} {g : EntF}
    (h : ∀ O w0 args M k, g O w0 args M k → ∃ x, x.lt 0 = true ∧ k x M ∧ ∀ β w, Inv O w0 β M w → ∃ args' Λ, fr β args' = fr β args ∧ evFn P (fun _ => False) w (Γ (fun _ => False) w) Λ m n f args' [] (fun y _ => ∀ β, y.den β = x.den β)) :
    ∀ O w0, Entry P O w0 f (g O w0) := fun O w0 hf args M k hg hmlt β w hI => by
  obtain ⟨x, hx, hk, h⟩ := h O w0 args M k hg
  obtain ⟨args', Λ, he, hev⟩ := h β w hI
  rw [← he]
  refine ((evFn_sound (hΓ _ w) Λ m n).1 f args' [] _ hf hev rfl β w (Inv.nil w β)).mono ?_
  rintro e w' ⟨y, M', β', hy, rfl, hI', _, _⟩
  exact ⟨x, M, β, hk, by rw [hy β', ← den_nob hx β', ← den_nob hx β], hI.after hI'.fr, Grow.refl _ _, fun r hr => hI'.fr.block r hr (fun h => h)⟩
/-- A list of the memory at hand, as rows of the world. -/
theorem Inv.rows {O : Nat → Prop} {w0 w : World} {β : Env} {M : List Blk} (h : Inv O w0 β M w) {k : Nat} {e : TypeId} {sz n : Nat} {f : Nat → List SC} (hk : M[k]? = some (.lst e sz n f)) :
    (SC.lst k).den β = (SC.rsl (β.v k).1 sz f 0 n (β.v k).2.2).den β ∧ ∀ j, j < n → (β.v k).1.isSome = true ∧ RowAt (fun _ => False) w (β.v k).1 sz (f j) j := by
  have hL := h.ls k e sz n f hk
  refine ⟨?_, fun j hj => ?_⟩
  · have hf := h.lf k e sz n f hk
    show β.sv k = .slice ((β.v k).1.map (·.add (0 * sz))) n (β.v k).2.2
    unfold Env.sv
    rw [hf.1]
    congr 1
    cases (β.v k).1 with
    | none => rfl
    | some a => simp [Addr.add]
  · rcases hL.facts with ⟨_, e2⟩ | ⟨cap, cur, e1, _, h2, h3, h4, h5, he⟩
    · omega
    · refine ⟨by rw [e1]; rfl, ⟨⟨⟨β k, 0, none⟩, by rw [e1], (Array.getElem?_eq_some_iff.1 h2).1, fun h => h, (he j hj).2.1, fun i c hc => ?_⟩⟩⟩
      obtain ⟨a, ha, hcell⟩ := hL.cell hj hc
      rw [e1] at ha
      cases ha
      rw [hcell, ← SC.den_nob (List.all_eq_true.1 (he j hj).2.1 c (List.mem_of_getElem? hc)) β]
/-- A function that only reckons and makes lists: its text is gone through from a memory of its own; what is kept of what it made is told (K, N). -/
theorem Entry.made {P : Program} {Γ : TabF} (hΓ : TSF P Γ) (m n : Nat) {f : FuncId} {g : EntF}
    (h : ∀ O w0 args M k, g O w0 args M k → ∀ β w, Inv O w0 β M w → ∃ args' Λ, fr β args' = fr β args ∧
      evFn P (fun _ => False) w (Γ (fun _ => False) w) Λ m n f args' [] (fun y M' => ∃ K N y', noDup K = true ∧ renM K M' = some N ∧ renX K y = some y' ∧ k (shX M.length y') (M ++ N.map (shB M.length)))) :
    ∀ O w0, Entry P O w0 f (g O w0) := fun O w0 hf args M k hg hmlt β w hI => by
  obtain ⟨args', Λ, he, hev⟩ := h O w0 args M k hg β w hI
  rw [← he]
  refine ((evFn_sound (hΓ _ w) Λ m n).1 f args' [] _ hf hev rfl β w (Inv.nil w β)).mono ?_
  rintro e w' ⟨y, M', β', ⟨K, N, y', hd, hN, hy, hk⟩, rfl, hI', _, _⟩
  refine ⟨_, _, envJ M.length β (envK K β'), hk, ?_, hI.join hmlt (hI'.ren hd hN), ⟨by simp, Ext.join _ _ _⟩, fun r hr => hI'.fr.block r hr (fun h => h)⟩
  rw [shX_den, renX_den β' hy]
theorem vc_of {a b : Prop} (h : b) (e : a = b) : a := by rw [e]; exact h
/-- A row that came in, seen from a later world of which other blocks are written. -/
theorem RowAt.over {O O' : Nat → Prop} {w0 w : World} {A : Option Addr} {sz j : Nat} {cs : List SC} (h : RowAt O w0 A sz cs j) (hf : Fr O w0 w) (ho : ∀ r, O' r → w0.heap.size ≤ r ∨ O r) : RowAt O' w A sz cs j := by
  obtain ⟨⟨a, hA, hb, hO, hl, hc⟩⟩ := h
  refine ⟨⟨a, hA, Nat.lt_of_lt_of_le hb hf.size, fun h => ?_, hl, fun i c hi => ?_⟩⟩
  · rcases ho _ h with h | h
    · exact Nat.not_le_of_lt hb h
    · exact hO h
  · have hb2 : (a.add (j * sz + i)).block = a.block := by unfold Addr.add; split <;> rfl
    rw [hf.cell (by rw [hb2]; exact hb) (by rw [hb2]; exact hO)]
    exact hc i c hi
/-- A function that writes one block, of which it has the address: its text is gone through from a memory of that block alone. -/
theorem Entry.own {P : Program} {Γ : TabF} (hΓ : TSF P Γ) (m n : Nat) {f : FuncId} {g : EntF}
    (h : ∀ O w0 args M k, g O w0 args M k → ∃ i e cs x cs' args', M[i]? = some (.mk e cs) ∧ cs.all (·.lt 0) = true ∧ cs'.all (·.lt 0) = true ∧ x.lt 0 = true ∧ k x (M.set i (.mk e cs')) ∧ (∀ β : Env, fr ⟨fun _ => β i, β.v⟩ args' = fr β args) ∧ ∀ O' w, Fr O w0 w → (∀ r, O' r → w0.heap.size ≤ r ∨ O r) → ∃ Λ, evFn P O' w (Γ O' w) Λ m n f args' [.mk e cs] (fun y M' => (∀ β, y.den β = x.den β) ∧ M'[0]? = some (.mk e cs'))) :
    ∀ O w0, EntryW P O w0 f (g O w0) := fun O w0 hf args M k hg hmlt β w hI => by
  obtain ⟨i, e0, cs, x, cs', args', hb, hl, hl', hx, hk, he, hev⟩ := h O w0 args M k hg
  have hi : i < M.length := get_lt hb
  obtain ⟨Λ, hev⟩ := hev (fun r => r = β i) w hI.fr (fun r hr => by rw [hr]; exact hI.low i _ hb trivial)
  have cden : ∀ {cs : List SC} (β1 β2 : Env), cs.all (·.lt 0) = true → cs.map (·.den β1) = cs.map (·.den β2) := fun β1 β2 hc => List.map_congr_left fun c hm => by
    have := List.all_eq_true.1 hc c hm
    rw [← SC.den_nob this β1, ← SC.den_nob this β2]
  have hI0 : Inv (fun r => r = β i) w ⟨fun _ => β i, β.v⟩ [.mk e0 cs] w := by
    refine ⟨fun j e2 cs2 hj => ?_, fun j e sz n f hj => ?_, fun j l a b hj hl _ _ _ => ?_, Fr.refl _ _, fun j a hj _ => Or.inr rfl, fun j Q hj => ?_, fun j Q hj => ?_⟩
    rotate_right
    · cases j with
      | zero => cases hj
      | succ j => simp at hj
    rotate_right
    · cases j with
      | zero => cases hj
      | succ j => simp at hj
    · cases j with
      | zero => cases hj; have := hI.at_ i e0 cs hb; rw [cden β ⟨fun _ => β i, β.v⟩ hl] at this; exact this
      | succ j => simp at hj
    · cases j with
      | zero => cases hj
      | succ j => simp at hj
    · have := get_lt hj; have := get_lt hl; simp at *; omega
  rw [← he β]
  refine ((evFn_sound (hΓ _ w) Λ m n).1 f args' [.mk e0 cs] _ hf hev (by
    simp only [memLt, List.all_cons, List.all_nil, Bool.and_true, Blk.lt, Blk.cells]
    exact List.all_eq_true.2 fun c hc => SC.lt_mono (List.all_eq_true.1 hl c hc)) ⟨fun _ => β i, β.v⟩ w hI0).mono ?_
  rintro e w' ⟨y, M', β', ⟨hy, hM⟩, rfl, hI', hgr, _⟩
  have hβ : β' 0 = β i := (hgr.ext 0 (by simp)).1
  have hset : ∀ {j : Nat} {a : Blk}, (M.set i (.mk e0 cs'))[j]? = some a → (i = j ∧ a = .mk e0 cs') ∨ (i ≠ j ∧ M[j]? = some a) := fun {j a} hj => by
    by_cases hji : i = j
    · subst hji
      rw [List.getElem?_set_self hi] at hj
      cases hj; exact .inl ⟨rfl, rfl⟩
    · rw [List.getElem?_set_ne hji] at hj
      exact .inr ⟨hji, hj⟩
  have hkeep : ∀ {j : Nat} {a : Blk}, i ≠ j → M[j]? = some a → a.real β j → w'.heap[β j]? = w.heap[β j]? := fun {j a} hji hj hr =>
    hI'.fr.block _ (hI.lt hj hr) (fun h => hji (hI.inj j i _ _ hj hb hr trivial h).symm)
  refine ⟨x, M.set i (.mk e0 cs'), β, hk, by rw [hy β', ← den_nob hx β', ← den_nob hx β], ⟨fun j e2 cs2 hj => ?_, fun j e2 sz n f hj => ?_, fun j l a b hj hl hr hs he => ?_, ⟨hI'.fr.os.trans hI.fr.os, hI'.fr.tape.trans hI.fr.tape, hI'.fr.output.trans hI.fr.output, Nat.le_trans hI.fr.size hI'.fr.size, fun r hr ho => ?_⟩, fun j a hj hr => ?_, fun j Q hj => ?_, fun j Q hj => ?_⟩, ⟨by simp, Ext.refl _ _⟩⟩
  rotate_right
  · rcases hset hj with ⟨_, e3⟩ | ⟨hji, hj⟩
    · cases e3
    · refine (hI.fz j Q hj).step (Nat.le_refl _) hI'.fr.size fun r _ h2 h3 => ⟨hI'.fr.block r h2 (fun h => h3 i _ hb trivial h.symm), fun j2 a hj2 hr => ?_⟩
      rcases hset hj2 with ⟨rfl, rfl⟩ | ⟨_, hj2⟩
      · exact h3 i _ hb trivial
      · exact h3 j2 a hj2 hr
  rotate_right
  · rcases hset hj with ⟨_, e3⟩ | ⟨hji, hj⟩
    · cases e3
    · exact (hI.ab j Q hj).kept (hkeep hji hj trivial)
  · rcases hset hj with ⟨rfl, e3⟩ | ⟨hji, hj⟩
    · cases e3
      have := hI'.at_ 0 e0 cs' hM
      rw [hβ, cden β' β hl'] at this
      exact this
    · rw [hkeep hji hj trivial]
      exact hI.at_ j e2 cs2 hj
  · rcases hset hj with ⟨rfl, e3⟩ | ⟨hji, hj⟩
    · cases e3
    · exact (hI.ls j e2 sz n f hj).kept rfl rfl (fun hr => hkeep hji hj hr)
  · have hget : ∀ {j : Nat} {a : Blk}, (M.set i (.mk e0 cs'))[j]? = some a → a.real β j → ∃ a0, M[j]? = some a0 ∧ a0.real β j := fun {j a} hj hr => by
      rcases hset hj with ⟨rfl, rfl⟩ | ⟨_, hj⟩
      · exact ⟨_, hb, trivial⟩
      · exact ⟨a, hj, hr⟩
    obtain ⟨a0, ha0, hr0⟩ := hget hj hr
    obtain ⟨b0, hb0, hs0⟩ := hget hl hs
    exact hI.inj j l a0 b0 ha0 hb0 hr0 hs0 he
  · rw [hI'.fr.block r (Nat.lt_of_lt_of_le hr hI.fr.size) (fun h => ?_)]
    · exact hI.fr.block r hr ho
    · rcases hI.low i _ hb trivial with h2 | h2
      · rw [h] at hr; exact Nat.not_le_of_lt hr h2
      · rw [h] at ho; exact ho h2
  · rcases hset hj with ⟨rfl, rfl⟩ | ⟨_, hj⟩
    · exact hI.low i _ hb trivial
    · exact hI.low j a hj hr
/-- As Entry.made; the lists' elements told by other words. -/
theorem Entry.madeL {P : Program} {Γ : TabF} (hΓ : TSF P Γ) (m n : Nat) {f : FuncId} {g : EntF}
    (h : ∀ O w0 args M k, g O w0 args M k → ∀ β w, Inv O w0 β M w → ∃ args' Λ, fr β args' = fr β args ∧
      evFn P (fun _ => False) w (Γ (fun _ => False) w) Λ m n f args' [] (fun y M' => ∃ K N N' y', noDup K = true ∧ renM K M' = some N ∧ LEq N N' ∧ renX K y = some y' ∧ k (shX M.length y') (M ++ N'.map (shB M.length)))) :
    ∀ O w0, Entry P O w0 f (g O w0) := fun O w0 hf args M k hg hmlt β w hI => by
  obtain ⟨args', Λ, he, hev⟩ := h O w0 args M k hg β w hI
  rw [← he]
  refine ((evFn_sound (hΓ _ w) Λ m n).1 f args' [] _ hf hev rfl β w (Inv.nil w β)).mono ?_
  rintro e w' ⟨y, M', β', ⟨K, N, N', y', hd, hN, hl, hy, hk⟩, rfl, hI', _, _⟩
  refine ⟨_, _, envJ M.length β (envK K β'), hk, ?_, hI.join hmlt ((hI'.ren hd hN).leq hl), ⟨by simp, Ext.join _ _ _⟩, fun r hr => hI'.fr.block r hr (fun h => h)⟩
  rw [shX_den, renX_den β' hy]
/-- What a part from the start on is worth. -/
theorem LstAt.part {base : Nat} {β : Env} {w : World} {i : Nat} {e : TypeId} {sz n0 n : Nat} {f : Nat → List SC} (h : LstAt base β w i e sz n0 f) (hn : n ≤ n0) :
    ∃ v : Option Addr × Nat × Nat, (SC.lsub i sz 0 n).den β = .slice v.1 v.2.1 v.2.2 ∧ (n = n0 → v = β.v i) ∧ (v.1.isSome = (β.v i).1.isSome) ∧ ∀ (β' : Env) (j : Nat), β' j = β i → β'.v j = v → LstAt base β' w j e sz n f := by
  rcases h.facts with ⟨e1, e2⟩ | ⟨cap, cur, e1, hb, h2, h3, h4, h5, he⟩
  · have hn0 : n = 0 := by omega
    subst hn0
    refine ⟨(none, 0, 0), ?_, fun _ => e1.symm, by rw [e1], fun β' j _ hv => ⟨⟨[], ⟨by simp, .inl ⟨by unfold Env.sv; rw [hv], rfl⟩⟩, fun q hq => absurd hq (Nat.not_lt_zero q)⟩, fun a ha => by rw [hv] at ha; cases ha⟩⟩
    show subV (β.v i) sz 0 0 = _
    rw [e1]; rfl
  · refine ⟨(some ⟨β i, 0, none⟩, n, cap), ?_, fun hnn => by rw [hnn, e1], by rw [e1], fun β' j hb' hv => ⟨⟨cur.toList.take (n * sz), ⟨?_, .inr ⟨β i, cap, cur, by unfold Env.sv; rw [hv], hb, h2, by omega, h4, h5, rfl⟩⟩, fun j2 hj2 => ?_⟩, fun a ha => by rw [hv] at ha; cases ha; exact hb'.symm⟩⟩
    · show subV (β.v i) sz 0 n = _
      unfold subV
      rw [e1]
      show (if 0 = cap then _ else _) = _
      split
      · have h8 : n = 0 := by omega
        have h9 : cap = 0 := by omega
        subst h8 h9; rfl
      · simp only [Option.map_some, add_plain0, Nat.zero_mul, Nat.sub_zero]
    · rw [List.length_take, Array.length_toList, h5]
      exact Nat.min_eq_left (Nat.mul_le_mul_right _ (by omega))
    · obtain ⟨q1, q2, q3, q4⟩ := he j2 (by omega)
      refine ⟨q1, q2, q3, fun m c hc => ?_⟩
      have hm : m < sz := by rw [← q1]; exact get_lt hc
      have h6 : (j2 + 1) * sz ≤ n * sz := Nat.mul_le_mul_right _ hj2
      have h7 : n * sz ≤ n0 * sz := Nat.mul_le_mul_right _ hn
      rw [Nat.add_mul, Nat.one_mul] at h6
      have := q4 m c hc
      rw [List.getElem?_take, if_pos (by omega)] at this ⊢
      exact this
theorem one_at {b a : Blk} {i : Nat} (h : [b][i]? = some a) : i = 0 ∧ a = b := by
  cases i with
  | zero => cases h; exact ⟨rfl, rfl⟩
  | succ i => simp at h
/-- A list cut down to its start is a list. -/
theorem Inv.part {O : Nat → Prop} {w0 w : World} {β : Env} {e : TypeId} {sz n0 n : Nat} {f : Nat → List SC} (h : Inv O w0 β [.lst e sz n0 f] w) (hn : n ≤ n0) :
    ∃ β', Inv O w0 β' [.lst e sz n f] w ∧ (SC.lst 0).den β' = (SC.lsub 0 sz 0 n).den β ∧ (n = n0 → (SC.lst 0).den β' = (SC.lst 0).den β) := by
  obtain ⟨v, hv, hv2, hv3, hL⟩ := (h.ls 0 e sz n0 f rfl).part hn
  have hre : ∀ {a : Blk}, a = .lst e sz n f → a.real ⟨β.b, fun _ => v⟩ 0 → Blk.real β 0 (.lst e sz n0 f) := fun ha hr => by
    subst ha
    show (β.v 0).1.isSome = true
    rw [← hv3]; exact hr
  refine ⟨⟨β.b, fun _ => v⟩, ⟨fun i e2 cs hi => ?_, fun i e2 sz2 n2 f2 hi => ?_, fun i j a b hi hj _ _ _ => ?_, h.fr, fun i a hi hr => ?_, fun i Q hi => ?_, fun i Q hi => ?_⟩, hv.symm, fun hnn => ?_⟩
  · obtain ⟨_, e3⟩ := one_at hi; cases e3
  · obtain ⟨rfl, e3⟩ := one_at hi; cases e3; exact hL _ _ rfl rfl
  · obtain ⟨rfl, _⟩ := one_at hi; obtain ⟨rfl, _⟩ := one_at hj; rfl
  · obtain ⟨rfl, e3⟩ := one_at hi
    exact h.low 0 _ rfl (hre e3 hr)
  · obtain ⟨_, e3⟩ := one_at hi; cases e3
  · obtain ⟨_, e3⟩ := one_at hi; cases e3
  · show Value.slice v.1 v.2.1 v.2.2 = β.sv 0
    rw [hv2 hnn]; rfl
/-- As Entry.madeL; what is returned is a list or the start of one. -/
theorem Entry.madeS {P : Program} {Γ : TabF} (hΓ : TSF P Γ) (m n : Nat) {f : FuncId} {g : EntF}
    (h : ∀ O w0 args M k, g O w0 args M k → ∀ β w, Inv O w0 β M w → ∃ args' Λ, fr β args' = fr β args ∧
      evFn P (fun _ => False) w (Γ (fun _ => False) w) Λ m n f args' [] (fun y M' => ∃ b e sz n0 n2 F F', M'[b]? = some (.lst e sz n0 F) ∧ n2 ≤ n0 ∧ (y = SX.one (.lsub b sz 0 n2) ∨ (y = SX.one (.lst b) ∧ n2 = n0)) ∧ (∀ j, j < n2 → F j = F' j) ∧ k (SX.one (.lst M.length)) (M ++ [.lst e sz n2 F']))) :
    ∀ O w0, Entry P O w0 f (g O w0) := fun O w0 hf args M k hg hmlt β w hI => by
  obtain ⟨args', Λ, he, hev⟩ := h O w0 args M k hg β w hI
  rw [← he]
  refine ((evFn_sound (hΓ _ w) Λ m n).1 f args' [] _ hf hev rfl β w (Inv.nil w β)).mono ?_
  rintro e w' ⟨y, M', β', ⟨b, e0, sz, n0, n2, F, F', hb, hn2, hy, hF, hk⟩, rfl, hI', _, _⟩
  have hN : renM [.at_ b] M' = some [.lst e0 sz n0 F] := by
    unfold renM optL optL renB
    simp only [hb]
  have hI1 := hI'.ren (K := [.at_ b]) rfl hN
  obtain ⟨β2, hI2, hd, hd2⟩ := hI1.part hn2
  have hI3 : Inv (fun _ => False) w β2 [.lst e0 sz n2 F'] w' := hI2.leq ⟨⟨F', rfl, hF⟩, trivial⟩
  refine ⟨_, _, envJ M.length β β2, hk, ?_, hI.join hmlt hI3, ⟨by simp, Ext.join _ _ _⟩, fun r hr => hI'.fr.block r hr (fun h => h)⟩
  have e1 : (SX.one (.lst M.length)).den (envJ M.length β β2) = (SC.lst 0).den β2 := by
    have := shX_den M.length β β2 (SX.one (.lst 0))
    exact this
  rw [e1]
  have hk0 : (envK [.at_ b] β').v 0 = β'.v b := rfl
  rcases hy with rfl | ⟨rfl, hnn⟩
  · rw [hd]; rfl
  · rw [hd2 hnn]; rfl
end Go.Proofs.YtfhckpfiegenaaaGreatDoor.Eng
