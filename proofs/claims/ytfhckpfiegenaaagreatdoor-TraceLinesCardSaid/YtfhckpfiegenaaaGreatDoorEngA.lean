import Derived.WalkKit
import Derived.Still
import Derived.LoopN
import Derived.Below
import Derived.OrdersHeld
import Derived.DataElems
import Derived.ChangeKeysEq
import Derived.WalkSpells
import Derived.Maps.Own
import Derived.Carry
namespace Go.Proofs.YtfhckpfiegenaaaGreatDoor.Eng
open Go Go.RowKit
/-- What the numbers of the memory at hand stand for: a block's number, a slice's value. -/
structure Env where
  b : Nat → Nat
  v : Nat → Option Addr × Nat × Nat
def Env.sv (β : Env) (k : Nat) : Value := .slice (β.v k).1 (β.v k).2.1 (β.v k).2.2
instance : CoeFun Env (fun _ => Nat → Nat) := ⟨Env.b⟩
/-- One cell: a value that holds no address of the blocks at hand, an address in one of them, a slice of one of them. -/
inductive SC where
  | val (v : Value)
  | ptr (b off : Nat)
  | sl (b off len cap : Nat)
  | row (A : Option Addr) (sz : Nat) (at_ : Nat → List SC) (j off : Nat)
  | rsl (A : Option Addr) (sz : Nat) (at_ : Nat → List SC) (lo len cap : Nat)
  | clo (f : FuncId) (caps : List (Nat × Nat))
  | opq (v : Value)
  | lst (k : Nat)
  | lsub (k sz lo n : Nat)
  | ep (k sz j off : Nat)
  | mpv (b : Nat)
inductive SV where
  | c (x : SC)
  | agg (cs : List SC)
inductive SX where
  | v (x : SV)
  | tup (vs : List SV)
/-- A part of a slice. -/
def subV (v : Option Addr × Nat × Nat) (sz lo n : Nat) : Value :=
  if lo = v.2.2 then .slice v.1 0 0 else .slice (v.1.map (·.add (lo * sz))) n (v.2.2 - lo)
/-- The address of a cell of an element. -/
def elemV (v : Option Addr × Nat × Nat) (sz j off : Nat) : Value := .pointer (some ((v.1.getD ⟨0, 0, none⟩).add (j * sz + off)))
def SC.den (β : Env) : SC → Value
  | .val v => v
  | .ptr b off => .pointer (some ⟨β b, off, none⟩)
  | .sl b off len cap => .slice (some ⟨β b, off, none⟩) len cap
  | .row A sz _ j off => .pointer (A.map (·.add (j * sz + off)))
  | .rsl A sz _ lo len cap => .slice (A.map (·.add (lo * sz))) len cap
  | .clo f caps => .func (.func f) #[] (caps.map fun p => Value.pointer (some ⟨β p.1, p.2, none⟩)).toArray
  | .opq v => v
  | .lst k => β.sv k
  | .lsub k sz lo n => subV (β.v k) sz lo n
  | .ep k sz j off => elemV (β.v k) sz j off
  | .mpv b => .map (some (β b))
def SV.den (β : Env) : SV → Value
  | .c x => x.den β
  | .agg cs => .agg (cs.map (·.den β)).toArray
def SX.den (β : Env) : SX → Value
  | .v x => x.den β
  | .tup vs => .tuple (vs.map (·.den β)).toArray
/-- All addresses lie in the first n blocks. -/
def SC.lt (n : Nat) : SC → Bool
  | .val _ => true
  | .ptr b _ => Nat.blt b n
  | .sl b _ _ _ => Nat.blt b n
  | .row .. => true
  | .rsl .. => true
  | .clo _ caps => caps.all fun p => Nat.blt p.1 n
  | .opq _ => true
  | .lst k => Nat.blt k n
  | .lsub k _ _ _ => Nat.blt k n
  | .ep k _ _ _ => Nat.blt k n
  | .mpv b => Nat.blt b n
def SV.lt (n : Nat) : SV → Bool
  | .c x => x.lt n
  | .agg cs => cs.all (·.lt n)
def SX.lt (n : Nat) : SX → Bool
  | .v x => x.lt n
  | .tup vs => vs.all (·.lt n)
/-- May be stored in a cell. -/
def SC.ok : SC → Bool
  | .val (.agg _) => false
  | .val (.tuple _) => false
  | .opq _ => false
  | _ => true
theorem SC.lt_mono {n : Nat} {x : SC} (h : x.lt 0 = true) : x.lt n = true := by
  cases x with
  | val => rfl
  | row => rfl
  | rsl => rfl
  | opq => rfl
  | ptr => simp [SC.lt] at h
  | sl => simp [SC.lt] at h
  | lst => simp [SC.lt] at h
  | lsub => simp [SC.lt] at h
  | ep => simp [SC.lt] at h
  | mpv => simp [SC.lt] at h
  | clo f caps =>
    cases caps with
    | nil => rfl
    | cons p r => simp [SC.lt] at h
def SX.one (x : SC) : SX := .v (.c x)
def undefX : SX := .v (.c (.val undef))
/-- What is told of an abstract object: what happened to it, and what it is. -/
structure AbQ where
  d : List (Int × Int)
  P : Option Obj → Prop
/-- A block of cells; a list of elements that is owned (its cells hold no address of the blocks at hand); one that is gone. -/
inductive Blk where
  | mk (elem : TypeId) (cells : List SC)
  | lst (elem : TypeId) (sz n : Nat) (at_ : Nat → List SC)
  | dead
  | ab (Q : AbQ)
  | fz (Q : World → Prop)
def Blk.cells : Blk → List SC
  | .mk _ cs => cs
  | _ => []
def nob : Env := ⟨fun _ => 0, fun _ => (none, 0, 0)⟩
/-- What stood in the world w0 stands, but for the blocks of O. -/
structure Fr (O : Nat → Prop) (w0 w : World) : Prop where
  os : w.os = w0.os
  tape : w.tape = w0.tape
  output : w.output = w0.output
  size : w0.heap.size ≤ w.heap.size
  block : ∀ r, r < w0.heap.size → ¬ O r → w.heap[r]? = w0.heap[r]?
theorem Fr.refl (O : Nat → Prop) (w : World) : Fr O w w := ⟨rfl, rfl, rfl, Nat.le_refl _, fun _ _ _ => rfl⟩
/-- The elements of an owned list. -/
def elemsOk (sz n : Nat) (f : Nat → List SC) (xs : List Value) : Prop :=
  ∀ j, j < n → (f j).length = sz ∧ (f j).all (·.lt 0) = true ∧ (f j).all SC.ok = true ∧ ∀ m c, (f j)[m]? = some c → xs[j * sz + m]? = some (c.den nob)
structure LstAt (base : Nat) (β : Env) (w : World) (i : Nat) (e : TypeId) (sz n : Nat) (f : Nat → List SC) : Prop where
  own : ∃ xs, w.ownsRow base e sz (β.sv i) n xs ∧ elemsOk sz n f xs
  blk : ∀ a, (β.v i).1 = some a → a.block = β i
/-- Does the number stand for a block? -/
def Blk.real (β : Env) (i : Nat) : Blk → Prop
  | .mk _ _ => True
  | .lst .. => (β.v i).1.isSome = true
  | .dead => False
  | .ab _ => True
  | .fz _ => False
/-- What is known of blocks that are written no more (they have no number). -/
structure Frz (β : Env) (base : Nat) (M : List Blk) (w : World) (Q : World → Prop) : Prop where
  out : ∃ F : Nat → Prop, (∀ r, F r → base ≤ r ∧ r < w.heap.size ∧ ∀ j a, M[j]? = some a → a.real β j → β j ≠ r) ∧ ∀ w', (∀ r, F r → w'.heap[r]? = w.heap[r]?) → Q w'
theorem Frz.step {β β' : Env} {base base' : Nat} {M M' : List Blk} {w w' : World} {Q : World → Prop} (h : Frz β base M w Q) (hb0 : base' ≤ base) (hs : w.heap.size ≤ w'.heap.size)
    (hb : ∀ r, base ≤ r → r < w.heap.size → (∀ j a, M[j]? = some a → a.real β j → β j ≠ r) → w'.heap[r]? = w.heap[r]? ∧ ∀ j a, M'[j]? = some a → a.real β' j → β' j ≠ r) : Frz β' base' M' w' Q := by
  obtain ⟨F, hF, hQ⟩ := h
  exact ⟨F, fun r hr => ⟨Nat.le_trans hb0 (hF r hr).1, Nat.lt_of_lt_of_le (hF r hr).2.1 hs, (hb r (hF r hr).1 (hF r hr).2.1 (hF r hr).2.2).2⟩, fun w2 h2 => hQ w2 fun r hr => (h2 r hr).trans (hb r (hF r hr).1 (hF r hr).2.1 (hF r hr).2.2).1⟩
structure AbAt (Q : AbQ) (w : World) (r : Nat) : Prop where
  is : Q.P (w.heap[r]?)
  lt : r < w.heap.size
theorem AbAt.kept {Q : AbQ} {w w' : World} {r : Nat} (h : AbAt Q w r) (e : w'.heap[r]? = w.heap[r]?) : AbAt Q w' r := by
  refine ⟨by rw [e]; exact h.is, ?_⟩
  rw [Array.getElem?_eq_getElem h.lt] at e
  exact (Array.getElem?_eq_some_iff.1 e).1
structure Inv (O : Nat → Prop) (w0 : World) (β : Env) (M : List Blk) (w : World) : Prop where
  at_ : ∀ i e cs, M[i]? = some (.mk e cs) → w.heap[β i]? = some (.cells (cs.map (·.den β)).toArray e (0, 0))
  ls : ∀ i e sz n f, M[i]? = some (.lst e sz n f) → LstAt 0 β w i e sz n f
  inj : ∀ i j a b, M[i]? = some a → M[j]? = some b → a.real β i → b.real β j → β i = β j → i = j
  fr : Fr O w0 w
  low : ∀ i a, M[i]? = some a → a.real β i → w0.heap.size ≤ β i ∨ O (β i)
  ab : ∀ i Q, M[i]? = some (Blk.ab Q) → AbAt Q w (β i)
  fz : ∀ (i : Nat) Q, M[i]? = some (Blk.fz Q) → Frz β w0.heap.size M w Q
def Ext (n : Nat) (β β' : Env) : Prop := ∀ i, i < n → β' i = β i ∧ β'.v i = β.v i
theorem Ext.refl (n : Nat) (β : Env) : Ext n β β := fun _ _ => ⟨rfl, rfl⟩
theorem Ext.trans {n : Nat} {β β' β'' : Env} (h : Ext n β β') (h' : Ext n β' β'') : Ext n β β'' := fun i hi => ⟨(h' i hi).1.trans (h i hi).1, (h' i hi).2.trans (h i hi).2⟩
theorem Ext.le {n m : Nat} {β β' : Env} (h : Ext n β β') (hm : m ≤ n) : Ext m β β' := fun i hi => h i (Nat.lt_of_lt_of_le hi hm)
theorem SC.den_ext {n : Nat} {β β' : Env} (h : Ext n β β') {x : SC} (hx : x.lt n = true) : x.den β' = x.den β := by
  cases x with
  | val v => rfl
  | ptr b off => simp only [SC.lt, Nat.blt_eq] at hx; simp only [SC.den, (h b hx).1]
  | sl b off len cap => simp only [SC.lt, Nat.blt_eq] at hx; simp only [SC.den, (h b hx).1]
  | row => rfl
  | rsl => rfl
  | opq => rfl
  | lst k => simp only [SC.lt, Nat.blt_eq] at hx; simp only [SC.den, Env.sv, (h k hx).2]
  | lsub k => simp only [SC.lt, Nat.blt_eq] at hx; simp only [SC.den, (h k hx).2]
  | ep k => simp only [SC.lt, Nat.blt_eq] at hx; simp only [SC.den, (h k hx).2]
  | mpv b => simp only [SC.lt, Nat.blt_eq] at hx; simp only [SC.den, (h b hx).1]
  | clo f caps =>
    simp only [SC.lt] at hx
    simp only [SC.den]
    congr 2
    refine List.map_congr_left fun p hp => ?_
    have := List.all_eq_true.1 hx p hp
    rw [(h p.1 (by simpa using this)).1]
theorem SV.den_ext {n : Nat} {β β' : Env} (h : Ext n β β') {x : SV} (hx : x.lt n = true) : x.den β' = x.den β := by
  cases x with
  | c x => exact SC.den_ext h hx
  | agg cs =>
    simp only [SV.den]
    congr 2
    exact List.map_congr_left fun y hy => SC.den_ext h (List.all_eq_true.1 hx y hy)
theorem SX.den_ext {n : Nat} {β β' : Env} (h : Ext n β β') {x : SX} (hx : x.lt n = true) : x.den β' = x.den β := by
  cases x with
  | v x => exact SV.den_ext h hx
  | tup vs =>
    simp only [SX.den]
    congr 2
    exact List.map_congr_left fun y hy => SV.den_ext h (List.all_eq_true.1 hx y hy)
def Blk.lt (n : Nat) (b : Blk) : Bool := b.cells.all (·.lt n)
def memLt (n : Nat) (M : List Blk) : Bool := M.all (·.lt n)
theorem cells_ext {n : Nat} {β β' : Env} (h : Ext n β β') {cs : List SC} (hx : cs.all (·.lt n) = true) : cs.map (·.den β') = cs.map (·.den β) :=
  List.map_congr_left fun y hy => SC.den_ext h (List.all_eq_true.1 hx y hy)
theorem frame_ext {n : Nat} {β β' : Env} (h : Ext n β β') {cs : List SX} (hx : cs.all (·.lt n) = true) : cs.map (·.den β') = cs.map (·.den β) :=
  List.map_congr_left fun y hy => SX.den_ext h (List.all_eq_true.1 hx y hy)
/-! ### a new block -/
def put1 (β : Env) (n r : Nat) : Env := ⟨fun i => if i = n then r else β i, β.v⟩
theorem put1_ext (β : Env) (n r : Nat) : Ext n β (put1 β n r) := fun i hi => ⟨by show (if i = n then r else β i) = β i; rw [if_neg (by omega)], rfl⟩
theorem put1_at (β : Env) (n r : Nat) : put1 β n r n = r := by show (if n = n then r else β n) = r; rw [if_pos rfl]
theorem LstAt.lt {base : Nat} {β : Env} {w : World} {i : Nat} {e : TypeId} {sz n : Nat} {f : Nat → List SC} (h : LstAt base β w i e sz n f) (hr : (β.v i).1.isSome = true) : base ≤ β i ∧ β i < w.heap.size := by
  obtain ⟨a, ha⟩ := Option.isSome_iff_exists.1 hr
  obtain ⟨xs, ho, _⟩ := h.own
  rw [← h.blk a ha]
  exact ho.lt a.block (by unfold Env.sv; rw [ha]; rfl)
/-- A list stays as it is where its block does. -/
theorem LstAt.kept {base : Nat} {β β' : Env} {w w' : World} {i i' : Nat} {e : TypeId} {sz n : Nat} {f : Nat → List SC} (h : LstAt base β w i e sz n f) (hb : β' i' = β i) (hv : β'.v i' = β.v i)
    (hk : (β.v i).1.isSome = true → w'.heap[β i]? = w.heap[β i]?) : LstAt base β' w' i' e sz n f := by
  obtain ⟨xs, ho, he⟩ := h.own
  refine ⟨⟨xs, ⟨ho.1, ?_⟩, he⟩, fun a ha => by rw [hb]; exact h.blk a (by rw [← hv]; exact ha)⟩
  unfold Env.sv at ho ⊢
  rw [hv]
  rcases ho.2 with hn | ⟨g, cap, cur, he1, h1, h2, h3⟩
  · exact .inl hn
  · refine .inr ⟨g, cap, cur, he1, h1, ?_, h3⟩
    have hs : (β.v i).1 = some ⟨g, 0, none⟩ := by injection he1
    have hg : g = β i := h.blk _ hs
    rw [hg, hk (by rw [hs]; rfl), ← hg]
    exact h2
theorem Inv.lt {O : Nat → Prop} {w0 w : World} {β : Env} {M : List Blk} (h : Inv O w0 β M w) {i : Nat} {a : Blk} (hi : M[i]? = some a) (hr : a.real β i) : β i < w.heap.size := by
  cases a with
  | mk e cs =>
    have := h.at_ i e cs hi
    rcases Nat.lt_or_ge (β i) w.heap.size with h1 | h1
    · exact h1
    · rw [Array.getElem?_eq_none h1] at this; cases this
  | lst e sz n f => exact ((h.ls i e sz n f hi).lt hr).2
  | dead => exact hr.elim
  | ab Q => exact (h.ab i Q hi).lt
  | fz => exact hr.elim
theorem real_ext {n : Nat} {β β' : Env} (h : Ext n β β') {i : Nat} (hi : i < n) {a : Blk} : a.real β' i ↔ a.real β i := by
  cases a with
  | mk => exact Iff.rfl
  | lst => unfold Blk.real; rw [(h i hi).2]
  | dead => exact Iff.rfl
  | ab => exact Iff.rfl
  | fz => exact Iff.rfl
theorem get_lt {α : Type} {l : List α} {i : Nat} {a : α} (h : l[i]? = some a) : i < l.length := (List.getElem?_eq_some_iff.1 h).1
theorem get_push {α : Type} {l : List α} {b a : α} {i : Nat} (h : (l ++ [b])[i]? = some a) : (i < l.length ∧ l[i]? = some a) ∨ (i = l.length ∧ a = b) := by
  rcases Nat.lt_or_ge i l.length with hi | hi
  · rw [List.getElem?_append_left hi] at h; exact .inl ⟨hi, h⟩
  · have hi2 : i = l.length := by have := get_lt h; simp at this; omega
    subst hi2
    simp at h
    exact .inr ⟨rfl, h.symm⟩
theorem memLt_at {n : Nat} {M : List Blk} (h : memLt n M = true) {i : Nat} {e : TypeId} {cs : List SC} (hb : M[i]? = some (.mk e cs)) : cs.all (·.lt n) = true :=
  List.all_eq_true.1 h _ (List.mem_of_getElem? hb)
/-- A new block of the world, of whatever kind. -/
theorem Inv.grow {O : Nat → Prop} {w0 w w' : World} {β β' : Env} {M : List Blk} (h : Inv O w0 β M w) (hM : memLt M.length M = true) (b : Blk) (hx : Ext M.length β β') (hf : Fr O w0 w')
    (hk : ∀ i a, M[i]? = some a → a.real β i → w'.heap[β i]? = w.heap[β i]?) (hne : ∀ i a, M[i]? = some a → a.real β i → b.real β' M.length → β i ≠ β' M.length)
    (h1 : ∀ e cs, b = .mk e cs → w'.heap[β' M.length]? = some (.cells (cs.map (·.den β')).toArray e (0, 0))) (h2 : ∀ e sz n f, b = .lst e sz n f → LstAt 0 β' w' M.length e sz n f)
    (hl : b.real β' M.length → w0.heap.size ≤ β' M.length ∨ O (β' M.length)) (hz : ∀ (i : Nat) Q, M[i]? = some (Blk.fz Q) → Frz β' w0.heap.size (M ++ [b]) w' Q)
    (h3 : ∀ Q, b = Blk.ab Q → AbAt Q w' (β' M.length)) (h4 : ∀ Q, b = Blk.fz Q → Frz β' w0.heap.size (M ++ [b]) w' Q) : Inv O w0 β' (M ++ [b]) w' := by
  refine ⟨fun i e cs hi => ?_, fun i e sz n f hi => ?_, fun i j a c hi hj hr hs he => ?_, hf, fun i a hi hr => ?_, fun i Q hi => ?_, fun i Q hi => ?_⟩
  rotate_right
  · rcases get_push hi with ⟨hlt, hi⟩ | ⟨rfl, hb⟩
    · exact hz i Q hi
    · exact h4 Q hb.symm
  rotate_right
  · rcases get_push hi with ⟨hlt, hi⟩ | ⟨rfl, hb⟩
    · rw [(hx i hlt).1]; exact (h.ab i Q hi).kept (hk i _ hi trivial)
    · exact h3 Q hb.symm
  · rcases get_push hi with ⟨hlt, hi⟩ | ⟨rfl, hb⟩
    · rw [(hx i hlt).1, hk i _ hi trivial, h.at_ i e cs hi, cells_ext hx (memLt_at hM hi)]
    · exact h1 e cs hb.symm
  · rcases get_push hi with ⟨hlt, hi⟩ | ⟨rfl, hb⟩
    · exact (h.ls i e sz n f hi).kept (hx i hlt).1 (hx i hlt).2 (fun hr => hk i _ hi hr)
    · exact h2 e sz n f hb.symm
  · rcases get_push hi with ⟨hil, hi⟩ | ⟨rfl, rfl⟩ <;> rcases get_push hj with ⟨hjl, hj⟩ | ⟨rfl, rfl⟩
    · rw [real_ext hx hil] at hr; rw [real_ext hx hjl] at hs
      rw [(hx i hil).1, (hx j hjl).1] at he
      exact h.inj i j a c hi hj hr hs he
    · rename_i hi2
      rw [real_ext hx hil] at hr
      rw [(hx i hil).1] at he
      exact absurd he (hne i a (by assumption) hr hs)
    · rw [real_ext hx hjl] at hs
      rw [(hx j hjl).1] at he
      exact absurd he.symm (hne j c (by assumption) hs hr)
    · rfl
  · rcases get_push hi with ⟨hil, hi⟩ | ⟨rfl, rfl⟩
    · rw [real_ext hx hil] at hr
      rw [(hx i hil).1]; exact h.low i a hi hr
    · exact hl hr
/-- What is known of blocks without a number stands where only a new block is made. -/
theorem Inv.fzA {O : Nat → Prop} {w0 w w' : World} {β β' : Env} {M : List Blk} (h : Inv O w0 β M w) (hx : Ext M.length β β') (b : Blk) (hs : w.heap.size ≤ w'.heap.size) (hw : ∀ r, r < w.heap.size → w'.heap[r]? = w.heap[r]?) (hb : b.real β' M.length → w.heap.size ≤ β' M.length) :
    ∀ (i : Nat) Q, M[i]? = some (Blk.fz Q) → Frz β' w0.heap.size (M ++ [b]) w' Q := fun i Q hi => (h.fz i Q hi).step (Nat.le_refl _) hs fun r h1 h2 h3 => ⟨hw r h2, fun j a hj hr => by
  rcases get_push hj with ⟨hlt, hj⟩ | ⟨rfl, rfl⟩
  · rw [(hx j hlt).1]; exact h3 j a hj ((real_ext hx hlt).1 hr)
  · have := hb hr; omega⟩
theorem Inv.push {O : Nat → Prop} {w0 w : World} {β : Env} {M : List Blk} (h : Inv O w0 β M w) (t : TypeId) (cs : List SC) (hM : memLt M.length M = true) (hc : cs.all (·.lt M.length) = true) :
    Inv O w0 (put1 β M.length w.heap.size) (M ++ [.mk t cs]) { w with heap := w.heap.push (.cells (cs.map (·.den β)).toArray t) } := by
  have he := put1_ext β M.length w.heap.size
  have hn : put1 β M.length w.heap.size M.length = w.heap.size := put1_at _ _ _
  have hp : ∀ r, r < w.heap.size → (w.heap.push (.cells (cs.map (·.den β)).toArray t))[r]? = w.heap[r]? := fun r hr => by rw [Array.getElem?_push, if_neg (by omega)]
  refine h.grow hM _ he ⟨h.fr.os, h.fr.tape, h.fr.output, ?_, fun r hr ho => ?_⟩ (fun i a hi hr => hp _ (h.lt hi hr)) (fun i a hi hr _ => by rw [hn]; have := h.lt hi hr; omega) (fun e cs2 e2 => ?_) (fun _ _ _ _ e2 => by cases e2) (fun _ => by rw [hn]; exact .inl h.fr.size) (h.fzA he _ (by show w.heap.size ≤ (w.heap.push _).size; rw [Array.size_push]; omega) hp (fun _ => by rw [hn]; exact Nat.le_refl _)) (fun _ e2 => by cases e2) (fun _ e2 => by cases e2)
  · show w0.heap.size ≤ (w.heap.push _).size
    rw [Array.size_push]; have := h.fr.size; omega
  · have := h.fr.size
    rw [← h.fr.block r hr ho]; exact hp r (by omega)
  · cases e2
    rw [hn, cells_ext he hc]
    show (w.heap.push _)[w.heap.size]? = _
    rw [Array.getElem?_push, if_pos rfl]
/-- What is known of the lists' values, whatever the world. -/
def LFacts (β : Env) (M : List Blk) : Prop := ∀ k e sz n f, M[k]? = some (.lst e sz n f) → (β.v k).2.1 = n ∧ n ≤ (β.v k).2.2 ∧ (β.v k).2.2 ≤ maxLen ∧ (0 < n → ∃ b, (β.v k).1 = some ⟨b, 0, none⟩) ∧ ((β.v k).1 = none → (β.v k).2.2 = 0)
theorem LstAt.facts {base : Nat} {β : Env} {w : World} {i : Nat} {e : TypeId} {sz n : Nat} {f : Nat → List SC} (h : LstAt base β w i e sz n f) :
    ((β.v i) = (none, 0, 0) ∧ n = 0) ∨ ∃ cap cur, β.v i = (some ⟨β i, 0, none⟩, n, cap) ∧ base ≤ β i ∧ w.heap[β i]? = some (.cells cur e (0, 0)) ∧ n ≤ cap ∧ cap ≤ maxLen ∧ cur.size = cap * sz ∧ elemsOk sz n f (cur.toList.take (n * sz)) := by
  obtain ⟨xs, ho, he⟩ := h.own
  rcases ho.2 with ⟨e1, e2⟩ | ⟨g, cap, cur, he1, h1, h2, h3, h4, h5, h6⟩
  · refine .inl ⟨?_, e2⟩
    unfold Env.sv at e1
    injection e1 with a1 a2 a3
    exact Prod.ext a1 (Prod.ext a2 a3)
  · unfold Env.sv at he1
    injection he1 with a1 a2 a3
    have hg : g = β i := h.blk _ a1
    subst hg
    exact .inr ⟨cap, cur, Prod.ext a1 (Prod.ext a2 a3), h1, h2, h3, h4, h5, by rw [h6]; exact he⟩
theorem Inv.lf {O : Nat → Prop} {w0 w : World} {β : Env} {M : List Blk} (h : Inv O w0 β M w) : LFacts β M := fun k e sz n f hk => by
  rcases (h.ls k e sz n f hk).facts with ⟨e1, e2⟩ | ⟨cap, cur, e1, _, _, h3, h4, _⟩
  · rw [e1, e2]; exact ⟨rfl, Nat.le_refl _, Nat.zero_le _, fun h => absurd h (Nat.lt_irrefl 0), fun _ => rfl⟩
  · rw [e1]; exact ⟨rfl, h3, h4, fun _ => ⟨_, rfl⟩, fun h => by cases h⟩
theorem add_plain0 (B n : Nat) : (⟨B, 0, none⟩ : Addr).add n = ⟨B, n, none⟩ := by
  unfold Addr.add; split
  · rename_i h0; subst h0; rfl
  · simp
/-- The cells of an element. -/
theorem LstAt.cell {base : Nat} {β : Env} {w : World} {k : Nat} {e : TypeId} {sz n : Nat} {f : Nat → List SC} (h : LstAt base β w k e sz n f) {j : Nat} (hj : j < n) {m : Nat} {c : SC} (hc : (f j)[m]? = some c) :
    ∃ a, (β.v k).1 = some a ∧ w.cell? (a.add (j * sz + m)) = some (c.den β) := by
  rcases h.facts with ⟨_, e2⟩ | ⟨cap, cur, e1, _, h2, _, _, _, he⟩
  · omega
  · obtain ⟨_, hl, _, hcell⟩ := he j hj
    refine ⟨⟨β k, 0, none⟩, by rw [e1], ?_⟩
    have := hcell m c hc
    rw [List.getElem?_take] at this
    split at this
    · rw [add_plain0]
      unfold World.cell?
      simp only
      rw [h2]
      have e0 : c.den nob = c.den β := SC.den_ext (n := 0) (fun i hi => absurd hi (Nat.not_lt_zero i)) (List.all_eq_true.1 hl c (List.mem_of_getElem? hc))
      rw [e0] at this
      simpa using this
    · cases this
/-! ### draws -/
theorem Inv.heap {O : Nat → Prop} {w0 w w' : World} {β : Env} {M : List Blk} (h : Inv O w0 β M w) (e1 : w'.os = w.os) (e2 : w'.tape = w.tape) (e3 : w'.output = w.output) (e4 : w'.heap = w.heap) : Inv O w0 β M w' :=
  ⟨fun i e cs hi => by rw [e4]; exact h.at_ i e cs hi, fun i e sz n f hi => (h.ls i e sz n f hi).kept rfl rfl (fun _ => by rw [e4]), h.inj, ⟨e1.trans h.fr.os, e2.trans h.fr.tape, e3.trans h.fr.output, by rw [e4]; exact h.fr.size, fun r hr ho => by rw [e4]; exact h.fr.block r hr ho⟩, h.low,
    fun i Q hi => (h.ab i Q hi).kept (by rw [e4]), fun i Q hi => (h.fz i Q hi).step (Nat.le_refl _) (by rw [e4]; exact Nat.le_refl _) fun r _ _ h3 => ⟨by rw [e4], h3⟩⟩
theorem Inv.drew {O : Nat → Prop} {w0 w : World} {β : Env} {M : List Blk} (h : Inv O w0 β M w) (n : Nat) : Inv O w0 β M { w with drawn := n } := h.heap rfl rfl rfl rfl
/-! ### cells -/
theorem Blk.cell {k : Blk} {off : Nat} {x : SC} (hx : k.cells[off]? = some x) : ∃ e cs, k = .mk e cs ∧ cs[off]? = some x := by
  cases k with
  | mk e cs => exact ⟨e, cs, rfl, hx⟩
  | _ => simp [Blk.cells] at hx
theorem Inv.cell {O : Nat → Prop} {w0 w : World} {β : Env} {M : List Blk} (h : Inv O w0 β M w) {b : Nat} {k : Blk} (hb : M[b]? = some k) {off : Nat} {x : SC} (hx : k.cells[off]? = some x) :
    w.cell? ⟨β b, off, none⟩ = some (x.den β) := by
  obtain ⟨e, cs, rfl, hx2⟩ := Blk.cell hx
  unfold World.cell?
  rw [h.at_ b e cs hb]
  simp [hx2]
theorem Inv.unfrozen {O : Nat → Prop} {w0 w : World} {β : Env} {M : List Blk} (h : Inv O w0 β M w) {b : Nat} {e : TypeId} {cs : List SC} (hb : M[b]? = some (.mk e cs)) (off : Nat) (s : Option Nat) :
    w.frozen? ⟨β b, off, s⟩ = false := by
  unfold World.frozen?
  rw [h.at_ b e cs hb]
  simp
def updB (g : List SC → List SC) : Blk → Blk
  | .mk e cs => .mk e (g cs)
  | b => b
theorem updB_mk {g : List SC → List SC} {b : Blk} {e : TypeId} {cs : List SC} (h : updB g b = .mk e cs) : ∃ cs0, b = .mk e cs0 ∧ cs = g cs0 := by
  cases b with
  | mk e0 cs0 => cases h; exact ⟨cs0, rfl, rfl⟩
  | _ => cases h
theorem updB_lst {g : List SC → List SC} {b : Blk} {e : TypeId} {sz n : Nat} {f : Nat → List SC} (h : updB g b = .lst e sz n f) : b = .lst e sz n f := by
  cases b with
  | mk e0 cs0 => cases h
  | lst => exact h
  | _ => cases h
theorem updB_ab {g : List SC → List SC} {b : Blk} {Q : AbQ} (h : updB g b = Blk.ab Q) : b = Blk.ab Q := by
  cases b with
  | ab => exact h
  | _ => cases h
theorem updB_fz {g : List SC → List SC} {b : Blk} {Q : World → Prop} (h : updB g b = Blk.fz Q) : b = Blk.fz Q := by
  cases b with
  | fz => exact h
  | _ => cases h
theorem updB_real {g : List SC → List SC} {b : Blk} {β : Env} {i : Nat} : (updB g b).real β i ↔ b.real β i := by cases b <;> exact Iff.rfl
def setC (M : List Blk) (b off : Nat) (x : SC) : List Blk := M.modify b (updB fun cs => cs.set off x)
theorem setC_length (M : List Blk) (b off : Nat) (x : SC) : (setC M b off x).length = M.length := by unfold setC; simp
theorem setC_at {M : List Blk} {b off i : Nat} {x : SC} {k : Blk} (h : (setC M b off x)[i]? = some k) : ∃ k0, M[i]? = some k0 ∧ k = if b = i then updB (fun cs => cs.set off x) k0 else k0 := by
  unfold setC at h
  rw [List.getElem?_modify] at h
  cases hm : M[i]? with
  | none => rw [hm] at h; simp at h
  | some k0 =>
    rw [hm] at h
    refine ⟨k0, rfl, ?_⟩
    by_cases e : b = i
    · simp [e] at h ⊢; exact h.symm
    · simp [e] at h ⊢; exact h.symm
theorem Inv.set {O : Nat → Prop} {w0 w : World} {β : Env} {M : List Blk} (h : Inv O w0 β M w) {b : Nat} {e0 : TypeId} {cs0 : List SC} (hb : M[b]? = some (.mk e0 cs0)) (off : Nat) (x : SC) :
    Inv O w0 β (setC M b off x) (w.setCell ⟨β b, off, none⟩ (x.den β)) := by
  have hother : ∀ r, β b ≠ r → (w.setCell ⟨β b, off, none⟩ (x.den β)).heap[r]? = w.heap[r]? := fun r hne => by
    unfold World.setCell
    show (w.heap.modify _ _)[r]? = _
    rw [Array.getElem?_modify, if_neg hne]
  have hreal : ∀ {i : Nat} {k0 : Blk}, (if b = i then updB (fun cs => cs.set off x) k0 else k0).real β i ↔ k0.real β i := fun {i k0} => by
    split
    · exact updB_real
    · exact Iff.rfl
  refine ⟨fun i e cs hi => ?_, fun i e sz n f hi => ?_, fun i j a c hi hj hr hs he => ?_, ⟨h.fr.os, h.fr.tape, h.fr.output, ?_, fun r hr ho => ?_⟩, fun i a hi hr => ?_, fun i Q hi => ?_, fun i Q hi => ?_⟩
  rotate_right
  · obtain ⟨k0, hk0, he⟩ := setC_at hi
    have hk1 : k0 = .fz Q := by
      by_cases e1 : b = i
      · rw [if_pos e1] at he; exact updB_fz he.symm
      · rw [if_neg e1] at he; exact he.symm
    subst hk1
    refine (h.fz i Q hk0).step (Nat.le_refl _) (by unfold World.setCell; rw [Array.size_modify]; exact Nat.le_refl _) fun r _ _ h3 => ⟨hother r (h3 b _ hb trivial), fun j a hj hr => ?_⟩
    obtain ⟨a0, ha0, rfl⟩ := setC_at hj
    exact h3 j a0 ha0 (hreal.1 hr)
  rotate_right
  · obtain ⟨k0, hk0, he⟩ := setC_at hi
    have hk1 : k0 = .ab Q := by
      by_cases e1 : b = i
      · rw [if_pos e1] at he; exact updB_ab he.symm
      · rw [if_neg e1] at he; exact he.symm
    subst hk1
    exact (h.ab i Q hk0).kept (hother _ fun he2 => by
      have := h.inj b i _ _ hb hk0 trivial trivial he2
      subst this
      rw [hb] at hk0; cases hk0)
  · obtain ⟨k0, hk0, he⟩ := setC_at hi
    by_cases e1 : b = i
    · subst e1
      rw [if_pos rfl] at he
      obtain ⟨cs1, rfl, rfl⟩ := updB_mk he.symm
      have h0 := h.at_ b e cs1 hk0
      unfold World.setCell
      show (w.heap.modify _ _)[β b]? = _
      rw [Array.getElem?_modify, if_pos rfl, h0]
      simp [List.map_set]
    · rw [if_neg e1] at he
      subst he
      rw [hother _ (fun he => e1 (h.inj b i _ _ hb hk0 trivial trivial he))]
      exact h.at_ i e cs hk0
  · obtain ⟨k0, hk0, he⟩ := setC_at hi
    have hk1 : k0 = .lst e sz n f := by
      by_cases e1 : b = i
      · rw [if_pos e1] at he; exact updB_lst he.symm
      · rw [if_neg e1] at he; exact he.symm
    subst hk1
    exact (h.ls i e sz n f hk0).kept rfl rfl (fun hr => hother _ (fun he2 => by
      have := h.inj b i _ _ hb hk0 trivial hr he2
      subst this
      rw [hb] at hk0; cases hk0))
  · obtain ⟨a0, ha0, rfl⟩ := setC_at hi
    obtain ⟨c0, hc0, rfl⟩ := setC_at hj
    exact h.inj i j _ _ ha0 hc0 (hreal.1 hr) (hreal.1 hs) he
  · unfold World.setCell; rw [Array.size_modify]; exact h.fr.size
  · rw [hother r (fun he => by
      rcases h.low b _ hb trivial with h1 | h1
      · omega
      · rw [he] at h1; exact ho h1)]
    exact h.fr.block r hr ho
  · obtain ⟨a0, ha0, rfl⟩ := setC_at hi
    exact h.low i _ ha0 (hreal.1 hr)
/-! ### operands -/
def constX : Value → SX
  | .agg cs => .v (.agg (cs.toList.map .val))
  | v => SX.one (.val v)
def rd (ts : List SX) : Operand → SX
  | .tmp t => ts.getD t undefX
  | .const v => constX v
  | .global g => SX.one (.val (.pointer (some ⟨g, 0, none⟩)))
  | .func f => SX.one (.val (.func (.func f) #[] #[]))
def fr (β : Env) (ts : List SX) : Array Value := (ts.map (·.den β)).toArray
theorem constX_den (β : Env) (v : Value) : (constX v).den β = v := by
  cases v <;> try rfl
  rename_i cs
  show Value.agg ((cs.toList.map SC.val).map (·.den β)).toArray = _
  rw [List.map_map]
  have : ((fun x : SC => x.den β) ∘ SC.val) = id := rfl
  rw [this]; simp
theorem den_ptr (β : Env) (b off : Nat) : (SX.v (.c (.ptr b off))).den β = .pointer (some ⟨β b, off, none⟩) := rfl
theorem den_agg (β : Env) (cs : List SC) : (SX.v (.agg cs)).den β = .agg (cs.map (·.den β)).toArray := rfl
theorem den_one (β : Env) (x : SC) : (SX.one x).den β = x.den β := rfl
theorem rd_den (β : Env) (ts : List SX) (df : List Deferred) (x : Operand) : Act.eval ⟨fr β ts, df⟩ x = (rd ts x).den β := by
  cases x with
  | tmp t =>
    simp only [Act.eval, rd, fr]
    rw [Array.getD_eq_getD_getElem?, List.getElem?_toArray, List.getElem?_map, List.getD_eq_getElem?_getD]
    cases ts[t]? <;> rfl
  | const v => simp only [Act.eval, rd]; rw [constX_den]
  | global g => rfl
  | func f => rfl
theorem eval_eq (β : Env) (ts : List SX) (df : List Deferred) : Act.eval ⟨fr β ts, df⟩ = fun x => (rd ts x).den β := funext (rd_den β ts df)
/-! ### what asks the program alone -/
def purS {α : Type} (P : Program) : Sem α → Option α
  | .pure a => some a
  | .program k => purS P (k P)
  | _ => none
theorem purS_run {α : Type} {P : Program} : ∀ {s : Sem α} {a : α}, purS P s = some a → ∀ w, s.run P w = .ok a w
  | .pure a, _, h, w => by cases h; rfl
  | .program k, a, h, w => by
    have h2 : purS P (k P) = some a := h
    exact purS_run h2 w
  | .load .., _, h, _ | .store .., _, h, _ | .new .., _, h, _ | .shape .., _, h, _ | .freeze .., _, h, _ | .frozen .., _, h, _ | .getObj .., _, h, _ | .setObj .., _, h, _ | .choose .., _, h, _ | .sys .., _, h, _ | .mark .., _, h, _ | .halt .., _, h, _ => by cases h
theorem den_nob {x : SX} (h : x.lt 0 = true) (β : Env) : x.den nob = x.den β := SX.den_ext (n := 0) (fun i hi => absurd hi (Nat.not_lt_zero i)) h
def isSel : Op → Bool
  | .select .. => true
  | _ => false
/-- An operation on values that hold no address of the blocks at hand, which asks the program alone. -/
def pureOp (P : Program) (ts : List SX) (o : Oper) (k : SX → Prop) : Prop :=
  (bif isSel o.op then False else bif o.op.operands.toList.all (fun x => (rd ts x).lt 0) then
    (match purS P (execOp (fun x => (rd ts x).den nob) o) with
    | some (.value v) => k (constX v)
    | _ => False) else False)
/-- Sound: one value, in every world. -/
def Good (P : Program) (O : Nat → Prop) (w0 : World) (M : List Blk) (ts : List SX) (o : Oper) (x : SX) : Prop :=
  ∀ (β : Env) (w : World) (df : List Deferred), Inv O w0 β M w → (execOp (Act.eval ⟨fr β ts, df⟩) o).run P w = .ok (.value (x.den β)) w
theorem pureOp_sound {P : Program} {O : Nat → Prop} {w0 : World} {M : List Blk} {ts : List SX} {o : Oper} {k : SX → Prop} (h : pureOp P ts o k) : ∃ x, k x ∧ Good P O w0 M ts o x := by
  unfold pureOp at h
  cases hs : isSel o.op with
  | true => rw [hs] at h; exact h.elim
  | false =>
    rw [hs] at h
    simp only [cond_false] at h
    cases ha : o.op.operands.toList.all (fun x => (rd ts x).lt 0) with
    | false => rw [ha] at h; exact h.elim
    | true =>
      rw [ha] at h
      simp only [cond_true] at h
      split at h
      · rename_i v hv
        refine ⟨_, h, fun β w df _ => ?_⟩
        rw [constX_den, eval_eq]
        have hc : execOp (fun x => (rd ts x).den β) o = execOp (fun x => (rd ts x).den nob) o := by
          refine execOp_congr o (fun cs b e => ?_) (fun x hx => ?_)
          · rw [e] at hs; cases hs
          · exact (den_nob (List.all_eq_true.1 ha x (by simpa using hx)) β).symm
        rw [hc]
        exact purS_run hv w
      · exact h.elim
/-! ### load -/
theorem loads_run {P : Program} {w : World} (B : Nat) (vs : List Value) : ∀ (n i off : Nat) (acc : Array Value), (∀ j, j < n → ∃ v, vs[i + j]? = some v ∧ w.cell? ⟨B, off + (i + j), none⟩ = some v) →
    (loadCellsFrom ⟨B, off, none⟩ i n acc).run P w = .ok (acc ++ ((vs.drop i).take n).toArray) w
  | 0, i, off, acc, _ => by simp [loadCellsFrom]
  | n + 1, i, off, acc, h => by
    obtain ⟨v, hv, hc⟩ := h 0 (by omega)
    have ha : (⟨B, off, none⟩ : Addr).add i = ⟨B, off + i, none⟩ := by
      unfold Addr.add; split
      · rename_i h0; subst h0; rfl
      · rfl
    have hc2 : w.cell? ⟨B, off + i, none⟩ = some v := by simpa using hc
    simp only [loadCellsFrom, ha, Sem.run_bind, run_load, hc2, Result.andThen_ok]
    rw [loads_run B vs n (i + 1) off (acc.push v) (fun j hj => by have := h (j + 1) (by omega); rwa [show i + (j + 1) = i + 1 + j by omega] at this)]
    congr 1
    have hv2 : vs[i]? = some v := by simpa using hv
    obtain ⟨hi, e⟩ := List.getElem?_eq_some_iff.1 hv2
    rw [List.drop_eq_getElem_cons hi, List.take_succ_cons, e]
    simp
theorem loads_run' {P : Program} {w : World} (a : Addr) (vs : List Value) : ∀ (n i : Nat) (acc : Array Value), (∀ j, j < n → ∃ v, vs[i + j]? = some v ∧ w.cell? (a.add (i + j)) = some v) →
    (loadCellsFrom a i n acc).run P w = .ok (acc ++ ((vs.drop i).take n).toArray) w
  | 0, i, acc, _ => by simp [loadCellsFrom]
  | n + 1, i, acc, h => by
    obtain ⟨v, hv, hc⟩ := h 0 (by omega)
    have hc2 : w.cell? (a.add i) = some v := by simpa using hc
    simp only [loadCellsFrom, Sem.run_bind, run_load, hc2, Result.andThen_ok]
    rw [loads_run' a vs n (i + 1) (acc.push v) (fun j hj => by have := h (j + 1) (by omega); rwa [show i + (j + 1) = i + 1 + j by omega] at this)]
    congr 1
    have hv2 : vs[i]? = some v := by simpa using hv
    obtain ⟨hi, e⟩ := List.getElem?_eq_some_iff.1 hv2
    rw [List.drop_eq_getElem_cons hi, List.take_succ_cons, e]
    simp
def isAggB : TypeDesc → Bool
  | .struct _ => true
  | .array _ _ => true
  | _ => false
theorem run_isAgg' {P : Program} {t : TypeId} {d : TypeDesc} (h : P.underlying t = some d) (w : World) : (isAgg t).run P w = .ok (isAggB d) w := by
  unfold isAgg
  rw [Sem.run_bind, run_underlying h]
  cases d <;> rfl
theorem run_sizeOf' {P : Program} {t : TypeId} {i : TypeInfo} (h : P.info? t = some i) (w : World) : (sizeOf t).run P w = .ok i.size w := by
  simp [sizeOf, typeInfo, program, h, Sem.run]
/-- Element j of a row that came in: its cells in the first world. -/
structure RowAt (O : Nat → Prop) (w0 : World) (A : Option Addr) (sz : Nat) (cs : List SC) (j : Nat) : Prop where
  out : ∃ a, A = some a ∧ a.block < w0.heap.size ∧ ¬ O a.block ∧ cs.all (·.lt 0) = true ∧ ∀ i c, cs[i]? = some c → w0.cell? (a.add (j * sz + i)) = some (c.den nob)
/-- An index in range. -/
structure In (i n : Int) : Prop where
  lo : 0 ≤ i
  hi : i < n
structure Cat (a b : Nat) : Prop where
  le : a + b ≤ 9223372036854775807
structure Cut (l h m : Int) : Prop where
  lo : 0 ≤ l
  mid : l ≤ h
  hi : h ≤ m
theorem Fr.cell {O : Nat → Prop} {w0 w : World} (h : Fr O w0 w) {a : Addr} (hb : a.block < w0.heap.size) (ho : ¬ O a.block) : w.cell? a = w0.cell? a := by
  unfold World.cell?; rw [h.block a.block hb ho]
theorem SC.den_nob {x : SC} (h : x.lt 0 = true) (β : Env) : x.den nob = x.den β := SC.den_ext (n := 0) (fun i hi => absurd hi (Nat.not_lt_zero i)) h
def ldX (P : Program) (O : Nat → Prop) (w0 : World) (M : List Blk) (t : TypeId) (x : SX) (k : SX → Prop) : Prop :=
  match x with
  | .v (.c (.ptr b off)) =>
    (match M[b]?, P.underlying t with
    | some blk, some d =>
      (bif isAggB d then
        (match P.info? t with
        | some i => (bif Nat.ble (off + i.size) blk.cells.length then k (.v (.agg ((blk.cells.drop off).take i.size))) else False)
        | none => False)
      else
        (match blk.cells[off]? with
        | some c => k (SX.one c)
        | none => False))
    | _, _ => False)
  | .v (.c (.row A sz at_ j off)) =>
    (match P.underlying t with
    | some d =>
      (bif isAggB d then
        (match P.info? t with
        | some i => (bif Nat.ble (off + i.size) (at_ j).length then RowAt O w0 A sz (at_ j) j ∧ k (.v (.agg (((at_ j).drop off).take i.size))) else False)
        | none => False)
      else
        (match (at_ j)[off]? with
        | some c => RowAt O w0 A sz (at_ j) j ∧ k (SX.one c)
        | none => False))
    | none => False)
  | .v (.c (.ep b sz j off)) =>
    (match M[b]?, P.underlying t with
    | some (.lst _ sz' n f), some d =>
      (bif Nat.beq sz' sz then
        (bif isAggB d then
          (match P.info? t with
          | some i => (bif Nat.ble (off + i.size) (f j).length then In (j : Int) (n : Int) ∧ k (.v (.agg (((f j).drop off).take i.size))) else False)
          | none => False)
        else
          (match (f j)[off]? with
          | some c => In (j : Int) (n : Int) ∧ k (SX.one c)
          | none => False))
      else False)
    | _, _ => False)
  | _ => False
theorem ldX_sound0 {P : Program} {O : Nat → Prop} {w0 : World} {M : List Blk} {t : TypeId} {x : SX} {k : SX → Prop} (h : ldX P O w0 M t x k) :
    ∃ y, k y ∧ ∀ (β : Env) (w : World), Fr O w0 w → (∀ b off blk, x = .v (.c (.ptr b off)) → M[b]? = some blk → ∀ off x, blk.cells[off]? = some x → w.cell? ⟨β b, off, none⟩ = some (x.den β)) →
      (∀ b sz j off, x = .v (.c (.ep b sz j off)) → ∀ e sz n f, M[b]? = some (.lst e sz n f) → ∃ base, LstAt base β w b e sz n f) → (Instr.loadAt t (x.den β)).run P w = .ok (y.den β) w := by
  unfold ldX at h
  split at h
  · rename_i b off
    split at h
    · rename_i blk d hb hd
      cases ha : isAggB d with
      | true =>
        rw [ha] at h
        simp only [cond_true] at h
        split at h
        · rename_i i hi
          cases hl : Nat.ble (off + i.size) blk.cells.length with
          | false => rw [hl] at h; exact h.elim
          | true =>
            rw [hl] at h
            refine ⟨_, h, fun β w hF hC _ => ?_⟩
            have hl2 := Nat.le_of_ble_eq_true hl
            simp only [Instr.loadAt, Instr.sureAddr, den_ptr, Sem.run_bind, Sem.run_pure, Result.andThen_ok, loadVar]
            rw [run_isAgg' hd, ha]
            simp only [Result.andThen_ok, if_true, Sem.run_bind]
            rw [run_sizeOf' hi]
            simp only [Result.andThen_ok, loadCells]
            rw [loads_run (β b) ((blk.cells.drop off).map (·.den β)) i.size 0 off #[] (fun j hj => by
              have hlt : off + j < blk.cells.length := by omega
              refine ⟨(blk.cells[off + j]).den β, ?_, ?_⟩
              · rw [Nat.zero_add, List.getElem?_map, List.getElem?_drop, List.getElem?_eq_getElem hlt]; rfl
              · rw [Nat.zero_add]; exact hC b _ blk rfl hb _ _ (List.getElem?_eq_getElem hlt))]
            simp [den_agg, List.map_take, List.map_drop]
        · exact h.elim
      | false =>
        rw [ha] at h
        simp only [cond_false] at h
        split at h
        · rename_i c hc
          refine ⟨_, h, fun β w hF hC _ => ?_⟩
          simp only [Instr.loadAt, Instr.sureAddr, den_ptr, Sem.run_bind, Sem.run_pure, Result.andThen_ok, loadVar]
          rw [run_isAgg' hd, ha]
          simp only [Result.andThen_ok, Bool.false_eq_true, if_false, run_load, hC b _ blk rfl hb _ _ hc]
          rfl
        · exact h.elim
    · exact h.elim
  · rename_i A sz at_ jj off
    split at h
    · rename_i d hd
      cases ha : isAggB d with
      | true =>
        rw [ha] at h
        simp only [cond_true] at h
        split at h
        · rename_i i hi
          cases hl : Nat.ble (off + i.size) (at_ jj).length with
          | false => rw [hl] at h; exact h.elim
          | true =>
            rw [hl] at h
            obtain ⟨⟨⟨a, hA, hblk, hO, hlt, hcells⟩⟩, hk⟩ := h
            refine ⟨_, hk, fun β w hF hC _ => ?_⟩
            subst hA
            have hl2 := Nat.le_of_ble_eq_true hl
            show (Instr.loadAt t (.pointer (some (a.add (jj * sz + off))))).run P w = _
            simp only [Instr.loadAt, Instr.sureAddr, Sem.run_bind, Sem.run_pure, Result.andThen_ok, loadVar]
            rw [run_isAgg' hd, ha]
            simp only [Result.andThen_ok, if_true, Sem.run_bind]
            rw [run_sizeOf' hi]
            simp only [Result.andThen_ok, loadCells]
            rw [loads_run' (a.add (jj * sz + off)) (((at_ jj).drop off).map (·.den β)) i.size 0 #[] (fun j hj => by
              have hlt2 : off + j < (at_ jj).length := by omega
              refine ⟨((at_ jj)[off + j]).den β, ?_, ?_⟩
              · rw [Nat.zero_add, List.getElem?_map, List.getElem?_drop, List.getElem?_eq_getElem hlt2]; rfl
              · rw [Nat.zero_add, Addr.add_add, Nat.add_assoc]
                have hb : (a.add (jj * sz + (off + j))).block = a.block := by unfold Addr.add; split <;> rfl
                rw [hF.cell (by rw [hb]; exact hblk) (by rw [hb]; exact hO), hcells (off + j) _ (List.getElem?_eq_getElem hlt2), SC.den_nob (List.all_eq_true.1 hlt _ (List.getElem_mem hlt2)) β])]
            simp [den_agg, List.map_take, List.map_drop]
        · exact h.elim
      | false =>
        rw [ha] at h
        simp only [cond_false] at h
        split at h
        · rename_i c hc
          obtain ⟨⟨⟨a, hA, hblk, hO, hlt, hcells⟩⟩, hk⟩ := h
          refine ⟨_, hk, fun β w hF hC _ => ?_⟩
          subst hA
          show (Instr.loadAt t (.pointer (some (a.add (jj * sz + off))))).run P w = _
          simp only [Instr.loadAt, Instr.sureAddr, Sem.run_bind, Sem.run_pure, Result.andThen_ok, loadVar]
          rw [run_isAgg' hd, ha]
          have hb : (a.add (jj * sz + off)).block = a.block := by unfold Addr.add; split <;> rfl
          simp only [Result.andThen_ok, Bool.false_eq_true, if_false, run_load]
          rw [hF.cell (by rw [hb]; exact hblk) (by rw [hb]; exact hO), hcells off _ hc]
          show Result.ok (c.den nob) w = _
          rw [SC.den_nob (List.all_eq_true.1 hlt _ (List.mem_of_getElem? hc)) β]
          rfl
        · exact h.elim
    · exact h.elim
  · rename_i b sz jj off
    split at h
    · rename_i e0 sz' n f d hb hd
      cases hs : Nat.beq sz' sz with
      | false => rw [hs] at h; exact h.elim
      | true =>
        rw [hs] at h
        obtain rfl := Nat.eq_of_beq_eq_true hs
        simp only [cond_true] at h
        cases ha : isAggB d with
        | true =>
          rw [ha] at h
          simp only [cond_true] at h
          split at h
          · rename_i i hi
            cases hl : Nat.ble (off + i.size) (f jj).length with
            | false => rw [hl] at h; exact h.elim
            | true =>
              rw [hl] at h
              obtain ⟨⟨_, hj⟩, hk⟩ := h
              have hj : jj < n := by omega
              refine ⟨_, hk, fun β w hF _ hE => ?_⟩
              obtain ⟨base, hL⟩ := hE b sz' jj off rfl e0 sz' n f hb
              have hl2 := Nat.le_of_ble_eq_true hl
              have h1 : 0 < i.size → (β.v b).1.isSome = true := fun hp => by
                obtain ⟨a, ha, _⟩ := hL.cell hj (m := off) (c := (f jj)[off]'(by omega)) (List.getElem?_eq_getElem _)
                rw [ha]; rfl
              show (Instr.loadAt t (elemV (β.v b) sz' jj off)).run P w = _
              simp only [elemV, Instr.loadAt, Instr.sureAddr, Sem.run_bind, Sem.run_pure, Result.andThen_ok, loadVar]
              rw [run_isAgg' hd, ha]
              simp only [Result.andThen_ok, if_true, Sem.run_bind]
              rw [run_sizeOf' hi]
              simp only [Result.andThen_ok, loadCells]
              rw [loads_run' (((β.v b).1.getD ⟨0, 0, none⟩).add (jj * sz' + off)) (((f jj).drop off).map (·.den β)) i.size 0 #[] (fun j hj2 => by
                have hlt2 : off + j < (f jj).length := by omega
                obtain ⟨a, hA, hcell⟩ := hL.cell hj (m := off + j) (List.getElem?_eq_getElem hlt2)
                refine ⟨((f jj)[off + j]).den β, ?_, ?_⟩
                · rw [Nat.zero_add, List.getElem?_map, List.getElem?_drop, List.getElem?_eq_getElem hlt2]; rfl
                · rw [Nat.zero_add, Addr.add_add, Nat.add_assoc, hA]; exact hcell)]
              simp [den_agg, List.map_take, List.map_drop]
          · exact h.elim
        | false =>
          rw [ha] at h
          simp only [cond_false] at h
          split at h
          · rename_i c hc
            obtain ⟨⟨_, hj⟩, hk⟩ := h
            have hj : jj < n := by omega
            refine ⟨_, hk, fun β w hF _ hE => ?_⟩
            obtain ⟨base, hL⟩ := hE b sz' jj off rfl e0 sz' n f hb
            obtain ⟨a, hA, hcell⟩ := hL.cell hj hc
            show (Instr.loadAt t (elemV (β.v b) sz' jj off)).run P w = _
            simp only [elemV, Instr.loadAt, Instr.sureAddr, Sem.run_bind, Sem.run_pure, Result.andThen_ok, loadVar]
            rw [run_isAgg' hd, ha, hA]
            simp only [Result.andThen_ok, Bool.false_eq_true, if_false, run_load, Option.getD_some]
            rw [hcell]
            rfl
          · exact h.elim
    · exact h.elim
  · exact h.elim
theorem ldX_sound {P : Program} {O : Nat → Prop} {w0 : World} {M : List Blk} {t : TypeId} {x : SX} {k : SX → Prop} (h : ldX P O w0 M t x k) :
    ∃ y, k y ∧ ∀ (β : Env) (w : World), Inv O w0 β M w → (Instr.loadAt t (x.den β)).run P w = .ok (y.den β) w := by
  obtain ⟨y, hk, hy⟩ := ldX_sound0 h
  exact ⟨y, hk, fun β w hI => hy β w hI.fr (fun b off blk _ hb o2 x2 hx => hI.cell hb hx) (fun b sz j off _ e sz n f hb => ⟨_, hI.ls b e sz n f hb⟩)⟩
/-! ### addresses -/
def faX (P : Program) (s : TypeId) (x : SX) (f : Nat) (k : SX → Prop) : Prop :=
  match x with
  | .v (.c (.row A sz at_ j off)) =>
    (match P.underlying s with
    | some (.struct fs) =>
      (match fs[f]? with
      | some fd =>
        (match P.info? fd.type with
        | some i => (bif Nat.beq i.size 0 then False else A.isSome = true ∧ k (SX.one (.row A sz at_ j (off + fd.offset))))
        | none => False)
      | none => False)
    | _ => False)
  | .v (.c (.ep b sz j off)) =>
    (match P.underlying s with
    | some (.struct fs) =>
      (match fs[f]? with
      | some fd =>
        (match P.info? fd.type with
        | some i => (bif Nat.beq i.size 0 then False else k (SX.one (.ep b sz j (off + fd.offset))))
        | none => False)
      | none => False)
    | _ => False)
  | .v (.c (.ptr b off)) =>
    (match P.underlying s with
    | some (.struct fs) =>
      (match fs[f]? with
      | some fd =>
        (match P.info? fd.type with
        | some i => (bif Nat.beq i.size 0 then False else k (SX.one (.ptr b (off + fd.offset))))
        | none => False)
      | none => False)
    | _ => False)
  | _ => False
theorem add_plain' (B off n : Nat) : (⟨B, off, none⟩ : Addr).add n = ⟨B, off + n, none⟩ := by
  unfold Addr.add; split
  · rename_i h0; subst h0; rfl
  · rfl
theorem faX_sound {P : Program} {s : TypeId} {x : SX} {f : Nat} {k : SX → Prop} (h : faX P s x f k) :
    ∃ y, k y ∧ ∀ (β : Env) (w : World), (Instr.fieldAt s (x.den β) f).run P w = .ok (y.den β) w := by
  unfold faX at h
  split at h
  · rename_i A sz at_ j off
    split at h
    · rename_i fs hs
      split at h
      · rename_i fd hf
        split at h
        · rename_i i hi
          cases hz : Nat.beq i.size 0 with
          | true => rw [hz] at h; exact h.elim
          | false =>
            rw [hz] at h
            obtain ⟨hA, h⟩ := h
            obtain ⟨a, rfl⟩ := Option.isSome_iff_exists.1 hA
            refine ⟨_, h, fun β w => ?_⟩
            have hz2 : i.size ≠ 0 := fun e => by rw [e] at hz; cases hz
            show (Instr.fieldAt s (.pointer (some (a.add (j * sz + off)))) f).run P w = .ok (.pointer (some (a.add (j * sz + (off + fd.offset))))) w
            simp only [Instr.fieldAt, Sem.run_bind, run_underlying hs, Result.andThen_ok, hf, Instr.sureAddr, Sem.run_pure, fieldPlace, run_sizeOf' hi, if_neg hz2, Addr.add_add, Nat.add_assoc]
        · exact h.elim
      · exact h.elim
    · exact h.elim
  · rename_i b sz j off
    split at h
    · rename_i fs hs
      split at h
      · rename_i fd hf
        split at h
        · rename_i i hi
          cases hz : Nat.beq i.size 0 with
          | true => rw [hz] at h; exact h.elim
          | false =>
            rw [hz] at h
            refine ⟨_, h, fun β w => ?_⟩
            have hz2 : i.size ≠ 0 := fun e => by rw [e] at hz; cases hz
            show (Instr.fieldAt s (elemV (β.v b) sz j off) f).run P w = .ok (elemV (β.v b) sz j (off + fd.offset)) w
            simp only [elemV, Instr.fieldAt, Sem.run_bind, run_underlying hs, Result.andThen_ok, hf, Instr.sureAddr, Sem.run_pure, fieldPlace, run_sizeOf' hi, if_neg hz2, Addr.add_add, Nat.add_assoc]
        · exact h.elim
      · exact h.elim
    · exact h.elim
  · rename_i b off
    split at h
    · rename_i fs hs
      split at h
      · rename_i fd hf
        split at h
        · rename_i i hi
          cases hz : Nat.beq i.size 0 with
          | true => rw [hz] at h; exact h.elim
          | false =>
            rw [hz] at h
            refine ⟨_, h, fun β w => ?_⟩
            have hz2 : i.size ≠ 0 := fun e => by rw [e] at hz; cases hz
            simp only [Instr.fieldAt, Sem.run_bind, run_underlying hs, Result.andThen_ok, hf, Instr.sureAddr, SX.den, SV.den, SC.den, Sem.run_pure, fieldPlace, run_sizeOf' hi, if_neg hz2, add_plain', SX.one]
        · exact h.elim
      · exact h.elim
    · exact h.elim
  · exact h.elim
/-! ### the value operations -/
def fieldX (P : Program) (t : TypeId) (x : SX) (f : Nat) (k : SX → Prop) : Prop :=
  match x with
  | .v (.agg cs) =>
    (match P.underlying t with
    | some (.struct fs) =>
      (match fs[f]? with
      | some fd =>
        (match P.underlying fd.type, P.info? fd.type with
        | some d, some i =>
          (bif isAggB d then k (.v (.agg ((cs.drop fd.offset).take i.size)))
          else (match cs[fd.offset]? with
            | some c => k (SX.one c)
            | none => False))
        | _, _ => False)
      | none => False)
    | _ => False)
  | _ => False
theorem fieldX_sound {P : Program} {t : TypeId} {x : SX} {f : Nat} {k : SX → Prop} (h : fieldX P t x f k) :
    ∃ y, k y ∧ ∀ (β : Env) (w : World), (Instr.field t (x.den β) f).run P w = .ok (y.den β) w := by
  unfold fieldX at h
  split at h
  · rename_i cs
    split at h
    · rename_i fs hs
      split at h
      · rename_i fd hf
        split at h
        · rename_i d i hd hi
          cases ha : isAggB d with
          | true =>
            rw [ha] at h
            refine ⟨_, h, fun β w => ?_⟩
            simp only [Instr.field, Sem.run_bind, run_underlying hs, Result.andThen_ok, hf, asAgg, SX.den, SV.den, Sem.run_pure, part, run_isAgg' hd, ha, if_true, run_sizeOf' hi]
            simp [List.map_take, List.map_drop]
          | false =>
            rw [ha] at h
            simp only [cond_false] at h
            split at h
            · rename_i c hc
              refine ⟨_, h, fun β w => ?_⟩
              simp only [Instr.field, Sem.run_bind, run_underlying hs, Result.andThen_ok, hf, asAgg, SX.den, SV.den, Sem.run_pure, part, run_isAgg' hd, ha]
              simp [hc]
              rfl
            · exact h.elim
        · exact h.elim
      · exact h.elim
    · exact h.elim
  · exact h.elim
/-- The pick of a Bool. -/
def pickX (c a b : SX) (k : SX → Prop) : Prop :=
  match c with
  | .v (.c (.val (.bool t))) =>
    (match a, b with
    | .v (.c (.val (.bool x))), .v (.c (.val (.bool y))) => k (SX.one (.val (.bool (bif t then x else y))))
    | _, _ => bif t then k a else k b)
  | _ => False
theorem pickX_sound {c a b : SX} {k : SX → Prop} (h : pickX c a b k) :
    ∃ y, k y ∧ ∃ t, (∀ β, c.den β = .bool t) ∧ ∀ β, y.den β = if t then a.den β else b.den β := by
  unfold pickX at h
  split at h
  · rename_i t
    split at h
    · rename_i x y
      refine ⟨_, h, t, fun β => rfl, fun β => ?_⟩
      cases t <;> rfl
    · cases t with
      | true => exact ⟨a, h, true, fun _ => rfl, fun _ => rfl⟩
      | false => exact ⟨b, h, false, fun _ => rfl, fun _ => rfl⟩
  · exact h.elim
/-- One of the addresses that are not nil, or a value that the program alone decides. -/
def nilX (P : Program) (ts : List SX) (o : Oper) (x : SX) (k : SX → Prop) : Prop :=
  match x with
  | .v (.c (.ptr b off)) => k (SX.one (.ptr b off))
  | .v (.c (.row A sz at_ j off)) => A.isSome = true ∧ k (SX.one (.row A sz at_ j off))
  | .v (.c (.ep b sz j off)) => k (SX.one (.ep b sz j off))
  | _ => pureOp P ts o k
def extX (x : SX) (i : Nat) (k : SX → Prop) : Prop :=
  match x with
  | .tup vs => (match vs[i]? with
    | some y => k (.v y)
    | none => False)
  | _ => False

/-! ### equality of structs -/
def partV (P : Program) (t : TypeId) (cs : Array Value) (off : Nat) : Option Value :=
  match P.underlying t, P.info? t with
  | some d, some i => bif isAggB d then some (.agg (cs.extract off (off + i.size))) else cs[off]?
  | _, _ => none
theorem partV_run {P : Program} {t : TypeId} {cs : Array Value} {off : Nat} {v : Value} (h : partV P t cs off = some v) (w : World) : (part t cs off).run P w = .ok v w := by
  unfold partV at h
  split at h
  · rename_i d i hd hi
    cases ha : isAggB d with
    | true =>
      rw [ha] at h
      cases h
      simp only [part, Sem.run_bind, run_isAgg' hd, ha, Result.andThen_ok, if_true, run_sizeOf' hi, Sem.run_pure]
    | false =>
      rw [ha] at h
      simp only [cond_false] at h
      simp only [part, Sem.run_bind, run_isAgg' hd, ha, Result.andThen_ok, Bool.false_eq_true, if_false, h, Sem.run_pure]
  · cases h
def eqFs (P : Program) (eq : TypeId → Value → Value → Option Bool) (xs ys : Array Value) : List Field → Option Bool
  | [] => some true
  | f :: fs => bif f.name == "_" then eqFs P eq xs ys fs else
    (match partV P f.type xs f.offset, partV P f.type ys f.offset with
    | some a, some b => (match eq f.type a b with
      | some r => (match eqFs P eq xs ys fs with
        | some r2 => some (r && r2)
        | none => none)
      | none => none)
    | _, _ => none)
def eqIs (P : Program) (eq : TypeId → Value → Value → Option Bool) (e : TypeId) (c : Nat) (xs ys : Array Value) : List Nat → Option Bool
  | [] => some true
  | i :: is => (match partV P e xs (i * c), partV P e ys (i * c) with
    | some a, some b => (match eq e a b with
      | some r => (match eqIs P eq e c xs ys is with
        | some r2 => some (r && r2)
        | none => none)
      | none => none)
    | _, _ => none)
def eqV (P : Program) : Nat → TypeId → Value → Value → Option Bool
  | 0, _, _, _ => none
  | d + 1, t, x, y => match P.underlying t, x, y with
    | some .bool, .bool a, .bool b => some (a == b)
    | some (.int _), .int k a, .int k' b => bif decide (k = k') then some (a == b) else none
    | some .string, .string a, .string b => some (a.toList == b.toList)
    | some (.struct fs), .agg xs, .agg ys => bif P.stoodInHeld t then none else eqFs P (eqV P d) xs ys fs.toList
    | some (.array n e), .agg xs, .agg ys => (match P.info? e with
      | some _ => eqIs P (eqV P d) e (P.cellsOf e) xs ys (List.range n)
      | none => none)
    | _, _, _ => none
theorem eqFs_run {P : Program} {eq : TypeId → Value → Value → Option Bool} {D : Nat} (hD : ∀ t x y r, eq t x y = some r → ∀ w, (Op.equalIn D t x y).run P w = .ok r w) (xs ys : Array Value) : ∀ (l : List Field) (r : Bool), eqFs P eq xs ys l = some r → ∀ w, (Op.eqFields D xs ys l).run P w = .ok r w
  | [], r, h, w => by cases h; simp [Op.eqFields]
  | f :: fs, r, h, w => by
    unfold eqFs at h
    unfold Op.eqFields
    cases hn : (f.name == "_") with
    | true =>
      rw [hn] at h
      have : f.name = "_" := by simpa using hn
      rw [if_neg (by simpa using this)]
      exact eqFs_run hD xs ys fs r h w
    | false =>
      rw [hn] at h
      have : f.name ≠ "_" := by simpa using hn
      rw [if_pos this]
      simp only [cond_false] at h
      split at h
      · rename_i a b ha hb
        split at h
        · rename_i r1 hr
          simp only [Sem.run_bind, partV_run ha, Result.andThen_ok, partV_run hb, hD _ _ _ _ hr]
          split at h
          · rename_i r2 h2
            cases h
            have := eqFs_run hD xs ys fs r2 h2 w
            cases r1 with
            | true => simp [this]
            | false => simp
          · cases h
        · cases h
      · cases h
theorem eqIs_run {P : Program} {eq : TypeId → Value → Value → Option Bool} {D : Nat} (hD : ∀ t x y r, eq t x y = some r → ∀ w, (Op.equalIn D t x y).run P w = .ok r w) (e : TypeId) (c : Nat) (xs ys : Array Value) : ∀ (l : List Nat) (r : Bool), eqIs P eq e c xs ys l = some r → ∀ w, (Op.eqItems D e c xs ys l).run P w = .ok r w
  | [], r, h, w => by cases h; simp [Op.eqItems]
  | i :: is, r, h, w => by
    unfold eqIs at h
    unfold Op.eqItems
    split at h
    · rename_i a b ha hb
      split at h
      · rename_i r1 hr
        simp only [Sem.run_bind, partV_run ha, Result.andThen_ok, partV_run hb, hD _ _ _ _ hr]
        split at h
        · rename_i r2 h2
          cases h
          have := eqIs_run hD e c xs ys is r2 h2 w
          cases r1 with
          | true => simp [this]
          | false => simp
        · cases h
      · cases h
    · cases h
theorem eqV_run {P : Program} : ∀ (d : Nat) (t : TypeId) (x y : Value) (r : Bool), eqV P d t x y = some r → ∀ (D : Nat), d ≤ D → ∀ w, (Op.equalIn D t x y).run P w = .ok r w
  | 0, _, _, _, _, h, _, _, _ => by cases h
  | d + 1, t, x, y, r, h, D, hD, w => by
    obtain ⟨D, rfl⟩ : ∃ m, D = m + 1 := ⟨D - 1, by omega⟩
    unfold eqV at h
    split at h
    · rename_i a b ht; cases h; exact run_equalIn_bool w D t a b ht
    · rename_i k0 k a k' b ht
      by_cases e : k = k'
      · subst e
        simp at h
        subst h
        exact run_equalIn_int w D t k k0 a b ht
      · simp [e] at h
    · rename_i a b ht; cases h; exact run_equalIn_string w D t a b ht
    · rename_i fs xs ys ht
      cases hs : P.stoodInHeld t with
      | true => rw [hs] at h; cases h
      | false =>
        rw [hs] at h
        have hf : P.fieldsOf t = fs := by unfold Program.fieldsOf; rw [ht]
        rw [run_equalIn_struct w D t xs ys (by rw [hf]; exact ht) hs, hf]
        exact eqFs_run (fun t x y r h w => eqV_run d t x y r h D (by omega) w) xs ys fs.toList r h w
    · rename_i n e xs ys ht
      split at h
      · rename_i i hi
        rw [run_equalIn_array w D xs ys ht hi]
        exact eqIs_run (fun t x y r h w => eqV_run d t x y r h D (by omega) w) e _ xs ys _ r h w
      · cases h
    · cases h
def neg? (op : BinOp) (b : Bool) : Option Bool :=
  match op with
  | .eql => some b
  | .neq => some !b
  | _ => none
def binX (P : Program) (M : List Blk) (ts : List SX) (o : Oper) (op : BinOp) (t : TypeId) (x y : SX) (k : SX → Prop) : Prop :=
  match x, y with
  | .v (.agg xs), .v (.agg ys) =>
    (bif (SX.v (.agg xs)).lt 0 && ((SX.v (.agg ys)).lt 0 && !(P.eqGuardType P.depth t)) then
      (match eqV P 20 t ((SX.v (.agg xs)).den nob) ((SX.v (.agg ys)).den nob) with
      | some b => (match neg? op b with
        | some r => k (SX.one (.val (.bool r)))
        | none => False)
      | none => False)
    else False)
  | .v (.c (.lst b)), .v (.c (.val (.slice none _ _))) =>
    (match M[b]?, P.underlying t with
    | some (.lst _ _ m _), some (.slice _) => (match neg? op true, neg? op false with
      | some p, some q => ∀ nl : Bool, (nl = true → m = 0) → k (SX.one (.val (.bool (bif nl then p else q))))
      | _, _ => False)
    | _, _ => False)
  | .v (.c (.rsl A _ _ _ _ _)), .v (.c (.val (.slice none _ _))) =>
    (match P.underlying t with
    | some (.slice _) => (match neg? op true, neg? op false with
      | some p, some q => k (SX.one (.val (.bool (bif A.isNone then p else q))))
      | _, _ => False)
    | _ => False)
  | .v (.c (.sl _ _ _ _)), .v (.c (.val (.slice none _ _))) =>
    (match P.underlying t with
    | some (.slice _) => (match neg? op true, neg? op false with
      | some _, some q => k (SX.one (.val (.bool q)))
      | _, _ => False)
    | _ => False)
  | .v (.c (.val (.string a))), .v (.c (.val (.string b))) =>
    (match op with
    | .add => Cat a.size b.size ∧ k (SX.one (.val (.string (a ++ b))))
    | _ => pureOp P ts o k)
  | _, _ => pureOp P ts o k
theorem run_eq_slice_nil {P : Program} (w : World) (D : Nat) (t e : TypeId) (a : Option Addr) (n c n' c' : Nat) (h : P.underlying t = some (.slice e)) :
    (Op.equalIn (D + 1) t (.slice a n c) (.slice none n' c')).run P w = .ok a.isNone w := by
  cases a <;> simp [Op.equalIn, run_underlying h]
theorem binX_sound {P : Program} {O : Nat → Prop} {w0 : World} {M : List Blk} {ts : List SX} {o : Oper} {op : BinOp} {t u : TypeId} {x y : Operand} {k : SX → Prop} (ho : o.op = .binOp op t x y u) (h : binX P M ts o op t (rd ts x) (rd ts y) k) : ∀ (β : Env) (w : World) (df : List Deferred), Inv O w0 β M w → ∃ z, k z ∧ (execOp (Act.eval ⟨fr β ts, df⟩) o).run P w = .ok (.value (z.den β)) w := by
  have key : (∃ z, k z ∧ Good P O w0 M ts o z) → ∀ (β : Env) (w : World) (df : List Deferred), Inv O w0 β M w → ∃ z, k z ∧ (execOp (Act.eval ⟨fr β ts, df⟩) o).run P w = .ok (.value (z.den β)) w := fun ⟨z, hk, hg⟩ β w df hI => ⟨z, hk, hg β w df hI⟩
  unfold binX at h
  split at h
  · rename_i xs ys hx hy
    cases hg : ((SX.v (.agg xs)).lt 0 && ((SX.v (.agg ys)).lt 0 && !(P.eqGuardType P.depth t))) with
    | false => rw [hg] at h; exact h.elim
    | true =>
      rw [hg] at h
      simp only [Bool.and_eq_true, Bool.not_eq_true'] at hg
      obtain ⟨hlx, hly, hgt⟩ := hg
      simp only [cond_true] at h
      split at h
      · rename_i b hb
        split at h
        · rename_i r hr
          refine key ⟨_, h, fun β w df _ => ?_⟩
          rw [den_nob hlx β, den_nob hly β] at hb
          have he := eqV_run 20 t _ _ b hb 10000 (by omega) w
          have ha : ∃ cs, (SX.v (.agg xs)).den β = .agg cs := ⟨_, rfl⟩
          have hb2 : ∃ cs, (SX.v (.agg ys)).den β = .agg cs := ⟨_, rfl⟩
          obtain ⟨ca, ha⟩ := ha
          obtain ⟨cb, hb2⟩ := hb2
          simp only [execOp, ho, rd_den, hx, hy, Sem.run_bind]
          rw [ha, hb2] at he ⊢
          cases op <;> simp only [neg?] at hr <;> cases hr
          · simp [eqGuard, program, Sem.run, hgt, binOp, Op.equal, Op.maxDepth, he, den_one, SC.den]
          · simp [eqGuard, program, Sem.run, hgt, binOp, Op.equal, Op.maxDepth, he, den_one, SC.den]
        · exact h.elim
      · exact h.elim
  · rename_i b n c hx hy
    split at h
    · rename_i e0 sz m f e hb ht
      split at h
      · rename_i p q hp hq
        intro β w df hI
        have hf := hI.lf b e0 sz m f hb
        have hnil := run_eq_slice_nil (P := P) w 9999 t e (β.v b).1 (β.v b).2.1 (β.v b).2.2 n c ht
        refine ⟨_, h (β.v b).1.isNone (fun hn => ?_), ?_⟩
        · rw [Option.isNone_iff_eq_none] at hn
          have := hf.2.2.2.2 hn
          omega
        · have e1 : (SX.v (.c (.lst b))).den β = .slice (β.v b).1 (β.v b).2.1 (β.v b).2.2 := rfl
          have e2 : (SX.v (.c (.val (.slice none n c)))).den β = .slice none n c := rfl
          simp only [execOp, ho, rd_den, hx, hy, e1, e2, Sem.run_bind, eqGuard]
          cases op <;> simp only [neg?] at hp hq <;> cases hp <;> cases hq
          · simp only [Nat.reduceAdd] at hnil
            simp [binOp, Op.equal, Op.maxDepth, hnil, den_one, SC.den]
          · simp only [Nat.reduceAdd] at hnil
            simp [binOp, Op.equal, Op.maxDepth, hnil, den_one, SC.den]
      · exact h.elim
    · exact h.elim
  · rename_i A sz at_ lo len cap n c hx hy
    split at h
    · rename_i e ht
      split at h
      · rename_i p q hp hq
        refine key ⟨_, h, fun β w df hI => ?_⟩
        have hnil := run_eq_slice_nil (P := P) w 9999 t e (A.map (·.add (lo * sz))) len cap n c ht
        have e1 : (SX.v (.c (.rsl A sz at_ lo len cap))).den β = .slice (A.map (·.add (lo * sz))) len cap := rfl
        have e2 : (SX.v (.c (.val (.slice none n c)))).den β = .slice none n c := rfl
        simp only [execOp, ho, rd_den, hx, hy, e1, e2, Sem.run_bind, eqGuard]
        cases op <;> simp only [neg?] at hp hq <;> cases hp <;> cases hq
        · simp only [Nat.reduceAdd] at hnil
          simp [binOp, Op.equal, Op.maxDepth, hnil, den_one, SC.den]
        · simp only [Nat.reduceAdd] at hnil
          simp [binOp, Op.equal, Op.maxDepth, hnil, den_one, SC.den]
      · exact h.elim
    · exact h.elim
  · rename_i b off len cap n c hx hy
    split at h
    · rename_i e ht
      split at h
      · rename_i p q hp hq
        refine key ⟨_, h, fun β w df hI => ?_⟩
        have hnil := run_eq_slice_nil (P := P) w 9999 t e (some ⟨β b, off, none⟩) len cap n c ht
        have e1 : (SX.v (.c (.sl b off len cap))).den β = .slice (some ⟨β b, off, none⟩) len cap := rfl
        have e2 : (SX.v (.c (.val (.slice none n c)))).den β = .slice none n c := rfl
        simp only [execOp, ho, rd_den, hx, hy, e1, e2, Sem.run_bind, eqGuard]
        cases op <;> simp only [neg?] at hp hq <;> cases hp <;> cases hq
        · simp only [Nat.reduceAdd] at hnil
          simp [binOp, Op.equal, Op.maxDepth, hnil, den_one, SC.den]
        · simp only [Nat.reduceAdd] at hnil
          simp [binOp, Op.equal, Op.maxDepth, hnil, den_one, SC.den]
      · exact h.elim
    · exact h.elim
  · rename_i a b hx hy
    split at h
    · obtain ⟨⟨hs⟩, hk⟩ := h
      refine key ⟨_, hk, fun β w df _ => ?_⟩
      simp only [execOp, ho, rd_den, hx, hy, Sem.run_bind]
      have e1 : (SX.v (.c (.val (.string a)))).den β = .string a := rfl
      have e2 : (SX.v (.c (.val (.string b)))).den β = .string b := rfl
      have e3 : (SX.one (.val (.string (a ++ b)))).den β = .string (a ++ b) := rfl
      rw [e1, e2, e3]
      simp only [eqGuard]
      simp [binOp, Op.stringOp]
      omega
    · exact key (pureOp_sound h)
  · exact key (pureOp_sound h)

/-! ### indices -/
def idxChain (i : Int) : Nat → Nat → (Nat → Prop) → Prop
  | 0, _, _ => False
  | n + 1, j, k => bif decide (i = (j : Int)) then k j else idxChain i n (j + 1) k
theorem idxChain_sound {i : Int} {k : Nat → Prop} : ∀ (n j : Nat), idxChain i n j k → ∃ m, j ≤ m ∧ m < j + n ∧ i = (m : Int) ∧ k m
  | 0, _, h => h.elim
  | n + 1, j, h => by
    unfold idxChain at h
    by_cases e : i = (j : Int)
    · rw [decide_eq_true e] at h; exact ⟨j, Nat.le_refl _, by omega, e, h⟩
    · rw [decide_eq_false e] at h
      obtain ⟨m, h1, h2, h3, h4⟩ := idxChain_sound n (j + 1) h
      exact ⟨m, by omega, by omega, h3, h4⟩
def ixX (P : Program) (M : List Blk) (t : TypeId) (x ix : SX) (k : SX → Prop) : Prop :=
  match ix with
  | .v (.c (.val (.int _ i))) =>
    (match P.underlying t with
    | some (.array n e) =>
      (match x, P.info? e with
      | .v (.c (.ptr b off)), some ei => idxChain i n 0 (fun j => k (SX.one (.ptr b (off + j * ei.size))))
      | .v (.c (.ep b sz q off)), some ei => idxChain i n 0 (fun j => k (SX.one (.ep b sz q (off + j * ei.size))))
      | .v (.c (.row A sz at_ q off)), some ei => A.isSome = true ∧ idxChain i n 0 (fun j => k (SX.one (.row A sz at_ q (off + j * ei.size))))
      | _, _ => False)
    | some (.slice e) =>
      (match x, P.info? e with
      | .v (.c (.sl b off len _)), some ei => idxChain i len 0 (fun j => k (SX.one (.ptr b (off + j * ei.size))))
      | .v (.c (.rsl A sz at_ lo len _)), some ei => bif Nat.beq ei.size sz then In i (len : Int) ∧ A.isSome = true ∧ k (SX.one (.row A sz at_ (lo + i.toNat) 0)) else False
      | .v (.c (.lst b)), some ei => (match M[b]? with
        | some (.lst _ sz n _) => bif Nat.beq ei.size sz then In i (n : Int) ∧ k (SX.one (.ep b sz i.toNat 0)) else False
        | _ => False)
      | .v (.c (.lsub b sz lo len)), some ei => (match M[b]? with
        | some (.lst _ _ n _) => bif Nat.beq ei.size sz then In i (len : Int) ∧ In ((lo : Int) + (len : Int)) ((n : Int) + 1) ∧ k (SX.one (.ep b sz (lo + i.toNat) 0)) else False
        | _ => False)
      | _, _ => False)
    | _ => False)
  | _ => False
theorem ixX_sound {P : Program} {M : List Blk} {t : TypeId} {x ix : SX} {k : SX → Prop} (h : ixX P M t x ix k) :
    ∃ y, k y ∧ ∀ (β : Env) (w : World), LFacts β M → (Instr.indexAt t (x.den β) (ix.den β)).run P w = .ok (y.den β) w := by
  unfold ixX at h
  split at h
  · rename_i kk i
    split at h
    · rename_i n e ht
      split at h
      · rename_i b off ei hi
        obtain ⟨m, _, hm, rfl, hk⟩ := idxChain_sound _ _ h
        refine ⟨_, hk, fun β w hF => ?_⟩
        show (Instr.indexAt t (.pointer (some ⟨β b, off, none⟩)) (.int kk (m : Int))).run P w = .ok (.pointer (some ⟨β b, off + m * ei.size, none⟩)) w
        have hm2 : m < n := by omega
        simp [Instr.indexAt, asIntOf, run_underlying ht, Instr.sureAddr, hm2, run_sizeOf' hi, add_plain']
        try (split <;> simp [hm2, run_sizeOf' hi, add_plain'])
      · rename_i b sz q off ei hi
        obtain ⟨m, _, hm, rfl, hk⟩ := idxChain_sound _ _ h
        refine ⟨_, hk, fun β w hF => ?_⟩
        show (Instr.indexAt t (elemV (β.v b) sz q off) (.int kk (m : Int))).run P w = .ok (elemV (β.v b) sz q (off + m * ei.size)) w
        have hm2 : m < n := by omega
        simp [elemV, Instr.indexAt, asIntOf, run_underlying ht, Instr.sureAddr, hm2, run_sizeOf' hi, Addr.add_add, Nat.add_assoc]
        try (split <;> simp [hm2, run_sizeOf' hi, Addr.add_add, Nat.add_assoc])
      · rename_i A sz at_ q off ei hi
        obtain ⟨hA, h⟩ := h
        obtain ⟨a, rfl⟩ := Option.isSome_iff_exists.1 hA
        obtain ⟨m, _, hm, rfl, hk⟩ := idxChain_sound _ _ h
        refine ⟨_, hk, fun β w hF => ?_⟩
        show (Instr.indexAt t (.pointer (some (a.add (q * sz + off)))) (.int kk (m : Int))).run P w = .ok (.pointer (some (a.add (q * sz + (off + m * ei.size))))) w
        have hm2 : m < n := by omega
        simp [Instr.indexAt, asIntOf, run_underlying ht, Instr.sureAddr, hm2, run_sizeOf' hi, Addr.add_add, Nat.add_assoc]
        try (split <;> simp [hm2, run_sizeOf' hi, Addr.add_add, Nat.add_assoc])
      · exact h.elim
    · rename_i e ht
      split at h
      · rename_i b off len cap ei hi
        obtain ⟨m, _, hm, rfl, hk⟩ := idxChain_sound _ _ h
        refine ⟨_, hk, fun β w hF => ?_⟩
        show (Instr.indexAt t (.slice (some ⟨β b, off, none⟩) len cap) (.int kk (m : Int))).run P w = .ok (.pointer (some ⟨β b, off + m * ei.size, none⟩)) w
        have hm2 : m < len := by omega
        simp [Instr.indexAt, asIntOf, run_underlying ht, hm2, run_sizeOf' hi, add_plain']
        try (split <;> simp [hm2, run_sizeOf' hi, add_plain'])
      · rename_i A sz at_ lo len cap ei hi
        cases hs : Nat.beq ei.size sz with
        | false => rw [hs] at h; exact h.elim
        | true =>
          rw [hs] at h
          obtain ⟨⟨h0, h1⟩, hA, hk⟩ := h
          obtain ⟨a, rfl⟩ := Option.isSome_iff_exists.1 hA
          have hsz := Nat.eq_of_beq_eq_true hs
          refine ⟨_, hk, fun β w hF => ?_⟩
          show (Instr.indexAt t (.slice (some (a.add (lo * sz))) len cap) (.int kk i)).run P w = .ok (.pointer (some (a.add ((lo + i.toNat) * sz + 0)))) w
          simp [Instr.indexAt, asIntOf, run_underlying ht, h0, h1, run_sizeOf' hi, Addr.add_add, hsz, Nat.add_mul]
      · rename_i b ei hi
        split at h
        · rename_i e0 sz n f hb
          cases hs : Nat.beq ei.size sz with
          | false => rw [hs] at h; exact h.elim
          | true =>
            rw [hs] at h
            obtain ⟨⟨h0, h1⟩, hk⟩ := h
            have hsz := Nat.eq_of_beq_eq_true hs
            refine ⟨_, hk, fun β w hF => ?_⟩
            obtain ⟨f1, f2, f3, f4, f5⟩ := hF b e0 sz n f hb
            obtain ⟨B, hB⟩ := f4 (by omega)
            show (Instr.indexAt t (.slice (β.v b).1 (β.v b).2.1 (β.v b).2.2) (.int kk i)).run P w = .ok (elemV (β.v b) sz i.toNat 0) w
            simp [Instr.indexAt, asIntOf, run_underlying ht, hB, f1, h0, h1, run_sizeOf' hi, hsz, elemV]
        · exact h.elim
      · rename_i b sz lo len ei hi
        split at h
        · rename_i e0 sz' n f hb
          cases hs : Nat.beq ei.size sz with
          | false => rw [hs] at h; exact h.elim
          | true =>
            rw [hs] at h
            obtain ⟨⟨h0, h1⟩, ⟨_, h2⟩, hk⟩ := h
            have hsz := Nat.eq_of_beq_eq_true hs
            refine ⟨_, hk, fun β w hF => ?_⟩
            obtain ⟨f1, f2, f3, f4, f5⟩ := hF b e0 sz' n f hb
            obtain ⟨B, hB⟩ := f4 (by omega)
            have hne : ¬ lo = (β.v b).2.2 := by omega
            show (Instr.indexAt t (subV (β.v b) sz lo len) (.int kk i)).run P w = .ok (elemV (β.v b) sz (lo + i.toNat) 0) w
            simp [subV, Instr.indexAt, asIntOf, run_underlying ht, hB, hne, h0, h1, run_sizeOf' hi, hsz, elemV, Addr.add_add, Nat.add_mul]
        · exact h.elim
      · exact h.elim
    · exact h.elim
  · exact h.elim
def bAt (s : ByteArray) (i : Int) : Int := ((s.data.toList.getD i.toNat 0).toNat : Int)
def ivX (P : Program) (t : TypeId) (x ix : SX) (k : SX → Prop) : Prop :=
  match ix with
  | .v (.c (.val (.int _ i))) =>
    (match P.underlying t, x with
    | some .string, .v (.c (.val (.string s))) => In i (s.size : Int) ∧ k (SX.one (.val (.int .u8 (bAt s i))))
    | some (.array n e), .v (.agg cs) =>
      (match P.info? e, P.underlying e with
      | some ei, some d => idxChain i n 0 (fun j => bif isAggB d then k (.v (.agg ((cs.drop (j * ei.size)).take ei.size))) else (match cs[j * ei.size]? with
        | some c => k (SX.one c)
        | none => False))
      | _, _ => False)
    | _, _ => False)
  | _ => False
theorem ivX_sound {P : Program} {t : TypeId} {x ix : SX} {k : SX → Prop} (h : ivX P t x ix k) :
    ∃ y, k y ∧ ∀ (β : Env) (w : World), (Instr.index t (x.den β) (ix.den β)).run P w = .ok (y.den β) w := by
  unfold ivX at h
  split at h
  · rename_i kk i
    split at h
    · rename_i s ht
      obtain ⟨⟨h0, h1⟩, hk⟩ := h
      refine ⟨_, hk, fun β w => ?_⟩
      show (Instr.index t (.string s) (.int kk i)).run P w = .ok (.int .u8 (bAt s i)) w
      rw [run_index_string w t s kk i ht, dif_pos ⟨h0, h1⟩]
      have hlt : i.toNat < s.size := by omega
      have e : s[i.toNat] = s.data.toList.getD i.toNat 0 := by
        rw [List.getD_eq_getElem?_getD, List.getElem?_eq_getElem (by rw [Array.length_toList]; exact hlt)]
        rfl
      unfold bAt
      rw [← e]
    · rename_i n e cs ht
      split at h
      · rename_i ei d hi hd
        obtain ⟨m, _, hm, rfl, hk⟩ := idxChain_sound _ _ h
        have hm2 : m < n := by omega
        cases ha : isAggB d with
        | true =>
          rw [ha] at hk
          refine ⟨_, hk, fun β w => ?_⟩
          show (Instr.index t (.agg (cs.map (·.den β)).toArray) (.int kk (m : Int))).run P w = _
          simp [Instr.index, asIntOf, run_underlying ht, hm2, run_sizeOf' hi, part, run_isAgg' hd, ha, den_agg, List.map_take, List.map_drop]
        | false =>
          rw [ha] at hk
          simp only [cond_false] at hk
          split at hk
          · rename_i c hc
            refine ⟨_, hk, fun β w => ?_⟩
            show (Instr.index t (.agg (cs.map (·.den β)).toArray) (.int kk (m : Int))).run P w = _
            simp [Instr.index, asIntOf, run_underlying ht, hm2, run_sizeOf' hi, part, run_isAgg' hd, ha, hc]
            rfl
          · exact hk.elim
      · exact h.elim
    · exact h.elim
  · exact h.elim
/-! ### cuts -/
def optI (ts : List SX) : Option Operand → Option (Option Int)
  | none => some none
  | some x => match rd ts x with
    | .v (.c (.val (.int _ i))) => some (some i)
    | _ => none
def slX (P : Program) (M : List Blk) (ts : List SX) (t : TypeId) (x : SX) (lo hi : Option Operand) (k : SX → Prop) : Prop :=
  match optI ts lo, optI ts hi with
  | some l, some h =>
    (match P.underlying t, x with
    | some .string, .v (.c (.val (.string s))) =>
      Cut (l.getD 0) (h.getD (s.size : Int)) (s.size : Int) ∧ k (SX.one (.val (.string (s.extract (match l with | some l => l.toNat | none => 0) (match h with | some h => h.toNat | none => s.size)))))
    | some (.slice e), .v (.c (.rsl A sz at_ lo0 len cap)) =>
      (match P.info? e with
      | some ei => (bif Nat.beq ei.size sz then
        Cut (l.getD 0) (h.getD (len : Int)) (cap : Int) ∧ Cut 0 (len : Int) (cap : Int) ∧
        (match l with
        | none => k (SX.one (.rsl A sz at_ lo0 (match h with | some h => h.toNat | none => len) cap))
        | some l => (l < (cap : Int) → k (SX.one (.rsl A sz at_ (lo0 + l.toNat) ((match h with | some h => h.toNat | none => len) - l.toNat) (cap - l.toNat)))) ∧ (l = (cap : Int) → k (SX.one (.rsl A sz at_ lo0 0 0))))
        else False)
      | none => False)
    | some (.slice e), .v (.c (.lst b)) =>
      (match P.info? e, M[b]? with
      | some ei, some (.lst _ sz n _) => (bif Nat.beq ei.size sz then
        Cut (l.getD 0) (h.getD (n : Int)) (n : Int) ∧ (match l, h with
          | none, none => k (SX.one (.lsub b sz 0 n))
          | none, some h => k (SX.one (.lsub b sz 0 h.toNat))
          | some l, none => k (SX.one (.lsub b sz l.toNat (n - l.toNat)))
          | some l, some h => k (SX.one (.lsub b sz l.toNat (h.toNat - l.toNat))))
        else False)
      | _, _ => False)
    | some (.slice e), .v (.c (.sl b off len cap)) =>
      (match P.info? e with
      | some ei => Cut (l.getD 0) (h.getD (len : Int)) (cap : Int) ∧ Cut 0 (len : Int) (cap : Int) ∧
        k (SX.one (.sl b (bif Nat.beq cap (match l with | some l => l.toNat | none => 0) then off else off + (match l with | some l => l.toNat | none => 0) * ei.size) ((match h with | some h => h.toNat | none => len) - (match l with | some l => l.toNat | none => 0)) (cap - (match l with | some l => l.toNat | none => 0))))
      | none => False)
    | _, _ => False)
  | _, _ => False
theorem optI_den {ts : List SX} {x : Option Operand} {i : Option Int} (h : optI ts x = some i) (β : Env) (df : List Deferred) : (i = none ∧ x.map (Act.eval ⟨fr β ts, df⟩) = none) ∨ ∃ n kk, i = some n ∧ x.map (Act.eval ⟨fr β ts, df⟩) = some (.int kk n) := by
  cases x with
  | none => cases h; exact .inl ⟨rfl, rfl⟩
  | some x =>
    unfold optI at h
    simp only at h
    split at h
    · rename_i kk n hx
      cases h
      refine .inr ⟨n, kk, rfl, ?_⟩
      rw [Option.map_some, rd_den, hx]; rfl
    · cases h
theorem bound_run {P : Program} {w : World} (kk : IntKind) (i : Int) (y : Nat) (c : BoundsCode) (h0 : 0 ≤ i) (h1 : i ≤ (y : Int)) : (Instr.sliceBound (.int kk i) y c).run P w = .ok i.toNat w := by
  simp [Instr.sliceBound, asIntOf, h0, h1]
theorem slX_sound {P : Program} {M : List Blk} {ts : List SX} {t : TypeId} {x : SX} {lo hi : Option Operand} {k : SX → Prop} (h : slX P M ts t x lo hi k) :
    ∃ y, k y ∧ ∀ (β : Env) (w : World) (df : List Deferred), LFacts β M → (Instr.sliceAt t (x.den β) (lo.map (Act.eval ⟨fr β ts, df⟩)) (hi.map (Act.eval ⟨fr β ts, df⟩)) none).run P w = .ok (y.den β) w := by
  unfold slX at h
  split at h
  · rename_i l hh hl hhi
    split at h
    · rename_i s ht
      obtain ⟨⟨h0, h1, h2⟩, hk⟩ := h
      refine ⟨_, hk, fun β w df hF => ?_⟩
      rcases optI_den hl β df with ⟨rfl, e1⟩ | ⟨n, kk, rfl, e1⟩ <;> rcases optI_den hhi β df with ⟨rfl, e2⟩ | ⟨m, kk2, rfl, e2⟩ <;> rw [e1, e2] <;>
        simp only [Option.getD_none, Option.getD_some] at h0 h1 h2 <;>
        show (Instr.sliceAt t (.string s) _ _ none).run P w = _ <;>
        simp [Instr.sliceAt, run_underlying ht, Instr.slice, Instr.sliceBounds, den_one, SC.den]
      · rw [bound_run kk2 m s.size .sliceAlen (by omega) h2]; simp
      · rw [bound_run kk n s.size .sliceB h0 h1]; simp
      · rw [bound_run kk2 m s.size .sliceAlen (by omega) h2]
        simp only [Result.andThen_ok]
        rw [bound_run kk n m.toNat .sliceB h0 (by omega)]; simp
    · rename_i e A sz at_ lo0 len cap ht
      split at h
      · rename_i ei hi2
        cases hs : Nat.beq ei.size sz with
        | false => rw [hs] at h; exact h.elim
        | true =>
          rw [hs] at h
          obtain ⟨⟨h0, h1, h2⟩, ⟨_, _, h3⟩, hk⟩ := h
          have hsz := Nat.eq_of_beq_eq_true hs
          have hmap : ∀ (n : Nat), (A.map (·.add (lo0 * sz))).map (·.add (n * ei.size)) = A.map (·.add ((lo0 + n) * sz)) := fun n => by
            rw [Option.map_map]; congr 1; funext a; simp only [Function.comp_apply, Addr.add_add, hsz, Nat.add_mul]
          cases l with
          | none =>
            refine ⟨_, hk, fun β w df hF => ?_⟩
            rcases optI_den hl β df with ⟨_, e1⟩ | ⟨n, kk, e0, e1⟩
            · rcases optI_den hhi β df with ⟨rfl, e2⟩ | ⟨m, kk2, rfl, e2⟩ <;> rw [e1, e2] <;>
                simp only [Option.getD_none, Option.getD_some] at h0 h1 h2 <;>
                show (Instr.sliceAt t (.slice (A.map (·.add (lo0 * sz))) len cap) _ _ none).run P w = _ <;>
                simp [Instr.sliceAt, run_underlying ht, Instr.slice, Instr.sliceBounds, den_one, SC.den, run_sizeOf' hi2]
              · intro hc; have := hmap 0; simpa using this
              · rw [bound_run kk2 m cap .sliceAcap (by omega) h2]; simp
                intro hc; have := hmap 0; simpa using this
            · cases e0
          | some l =>
            simp only [Option.getD_some] at h0 h1
            by_cases hlc : l < (cap : Int)
            · refine ⟨_, hk.1 hlc, fun β w df hF => ?_⟩
              rcases optI_den hl β df with ⟨e0, e1⟩ | ⟨n, kk, e0, e1⟩
              · cases e0
              · cases e0
                have hne : ¬ cap = l.toNat := by omega
                rcases optI_den hhi β df with ⟨rfl, e2⟩ | ⟨m, kk2, rfl, e2⟩ <;> rw [e1, e2] <;>
                  simp only [Option.getD_none, Option.getD_some] at h1 h2 <;>
                  show (Instr.sliceAt t (.slice (A.map (·.add (lo0 * sz))) len cap) _ _ none).run P w = _ <;>
                  simp [Instr.sliceAt, run_underlying ht, Instr.slice, Instr.sliceBounds, den_one, SC.den]
                · rw [bound_run kk l len .sliceB h0 h1]
                  simp only [Result.andThen_ok, run_sizeOf' hi2, if_neg hne]
                  have := hmap l.toNat
                  rw [Option.map_map] at this
                  simp [this]
                · rw [bound_run kk2 m cap .sliceAcap (by omega) h2]
                  simp only [Result.andThen_ok]
                  rw [bound_run kk l m.toNat .sliceB h0 (by omega)]
                  simp only [Result.andThen_ok, run_sizeOf' hi2, if_neg hne]
                  have := hmap l.toNat
                  rw [Option.map_map] at this
                  simp [this]
            · have hlc2 : l = (cap : Int) := by
                cases hh with
                | none => simp only [Option.getD_none] at h1; omega
                | some m => simp only [Option.getD_some] at h1 h2; omega
              refine ⟨_, hk.2 hlc2, fun β w df hF => ?_⟩
              rcases optI_den hl β df with ⟨e0, e1⟩ | ⟨n, kk, e0, e1⟩
              · cases e0
              · cases e0
                have hne : cap = l.toNat := by omega
                rcases optI_den hhi β df with ⟨rfl, e2⟩ | ⟨m, kk2, rfl, e2⟩ <;> rw [e1, e2] <;>
                  simp only [Option.getD_none, Option.getD_some] at h1 h2 <;>
                  show (Instr.sliceAt t (.slice (A.map (·.add (lo0 * sz))) len cap) _ _ none).run P w = _ <;>
                  simp [Instr.sliceAt, run_underlying ht, Instr.slice, Instr.sliceBounds, den_one, SC.den]
                · rw [bound_run kk l len .sliceB h0 h1]
                  simp only [Result.andThen_ok, run_sizeOf' hi2, if_pos hne]
                  simp; omega
                · rw [bound_run kk2 m cap .sliceAcap (by omega) h2]
                  simp only [Result.andThen_ok]
                  rw [bound_run kk l m.toNat .sliceB h0 (by omega)]
                  simp only [Result.andThen_ok, run_sizeOf' hi2, if_pos hne]
                  simp; omega
      · exact h.elim
    · rename_i e b ht
      split at h
      · rename_i ei e0 sz n f hi2 hb
        cases hs : Nat.beq ei.size sz with
        | false => rw [hs] at h; exact h.elim
        | true =>
          rw [hs] at h
          obtain ⟨⟨h0, h1, h2⟩, hk⟩ := h
          have hsz := Nat.eq_of_beq_eq_true hs
          have hk : k (SX.one (.lsub b sz (match l with | some l => l.toNat | none => 0) ((match hh with | some h => h.toNat | none => n) - (match l with | some l => l.toNat | none => 0)))) := by
            cases l <;> cases hh <;> exact hk
          refine ⟨_, hk, fun β w df hF => ?_⟩
          obtain ⟨f1, f2, f3, f4, f5⟩ := hF b e0 sz n f hb
          have fin : ∀ l h : Nat, l ≤ h → h ≤ n → (Value.slice (if (β.v b).2.2 = l then (β.v b).1 else Option.map (fun x => x.add (l * sz)) (β.v b).1) (h - l) ((β.v b).2.2 - l)) = subV (β.v b) sz l (h - l) := fun l h hlh hhn => by
            unfold subV
            by_cases hc : (β.v b).2.2 = l
            · rw [if_pos hc, if_pos hc.symm]
              have e1 : h - l = 0 := by omega
              have e2 : (β.v b).2.2 - l = 0 := by omega
              rw [e1, e2]
            · rw [if_neg hc, if_neg (fun e => hc e.symm)]
          rcases optI_den hl β df with ⟨rfl, e1⟩ | ⟨l, kk, rfl, e1⟩ <;> rcases optI_den hhi β df with ⟨rfl, e2⟩ | ⟨m, kk2, rfl, e2⟩ <;> rw [e1, e2] <;>
            simp only [Option.getD_none, Option.getD_some] at h0 h1 h2 <;>
            show (Instr.sliceAt t (.slice (β.v b).1 (β.v b).2.1 (β.v b).2.2) _ _ none).run P w = .ok (subV (β.v b) sz _ _) w <;>
            simp only [Instr.sliceAt, run_underlying ht, Instr.slice, Instr.sliceBounds, Sem.run_bind, Sem.run_pure, Result.andThen_ok, Option.isSome_none, Bool.false_eq_true, if_false, if_true, f1, run_sizeOf' hi2]
          · have := fin 0 n (by omega) (by omega)
            simp only [hsz]
            exact congrArg (Result.ok · w) this
          · rw [bound_run kk2 m (β.v b).2.2 .sliceAcap (by omega) (by omega)]
            have := fin 0 m.toNat (by omega) (by omega)
            simp only [Result.andThen_ok, hsz]
            exact congrArg (Result.ok · w) this
          · rw [bound_run kk l n .sliceB h0 h1]
            have := fin l.toNat n (by omega) (by omega)
            simp only [Result.andThen_ok, hsz]
            exact congrArg (Result.ok · w) this
          · rw [bound_run kk2 m (β.v b).2.2 .sliceAcap (by omega) (by omega)]
            simp only [Result.andThen_ok]
            rw [bound_run kk l m.toNat .sliceB h0 (by omega)]
            have := fin l.toNat m.toNat (by omega) (by omega)
            simp only [Result.andThen_ok, hsz]
            exact congrArg (Result.ok · w) this
      · exact h.elim
    · rename_i e b off len cap ht
      split at h
      · rename_i ei hi2
        obtain ⟨⟨h0, h1, h2⟩, ⟨_, _, h3⟩, hk⟩ := h
        refine ⟨_, hk, fun β w df hF => ?_⟩
        have fin : ∀ l h : Nat, (Value.slice (if cap = l then some ⟨β b, off, none⟩ else Option.map (fun x : Addr => x.add (l * ei.size)) (some ⟨β b, off, none⟩)) (h - l) (cap - l)) = (SX.one (.sl b (bif Nat.beq cap l then off else off + l * ei.size) (h - l) (cap - l))).den β := fun l h => by
          show _ = Value.slice (some ⟨β b, (bif Nat.beq cap l then off else off + l * ei.size), none⟩) (h - l) (cap - l)
          by_cases hc : cap = l
          · subst hc; rw [if_pos rfl, Nat.beq_refl]; rfl
          · have hb : Nat.beq cap l = false := by
              cases hb : Nat.beq cap l with
              | false => rfl
              | true => exact absurd (Nat.eq_of_beq_eq_true hb) hc
            rw [if_neg hc, hb]
            simp only [Option.map_some, cond_false, add_plain']
        rcases optI_den hl β df with ⟨rfl, e1⟩ | ⟨l, kk, rfl, e1⟩ <;> rcases optI_den hhi β df with ⟨rfl, e2⟩ | ⟨m, kk2, rfl, e2⟩ <;> rw [e1, e2] <;>
          simp only [Option.getD_none, Option.getD_some] at h0 h1 h2 <;>
          show (Instr.sliceAt t (.slice (some ⟨β b, off, none⟩) len cap) _ _ none).run P w = _ <;>
          simp only [Instr.sliceAt, run_underlying ht, Instr.slice, Instr.sliceBounds, Sem.run_bind, Sem.run_pure, Result.andThen_ok, Option.isSome_none, Bool.false_eq_true, if_false, if_true, run_sizeOf' hi2]
        · exact congrArg (Result.ok · w) (fin 0 len)
        · rw [bound_run kk2 m cap .sliceAcap (by omega) (by omega)]
          exact congrArg (Result.ok · w) (fin 0 m.toNat)
        · rw [bound_run kk l len .sliceB h0 h1]
          exact congrArg (Result.ok · w) (fin l.toNat len)
        · rw [bound_run kk2 m cap .sliceAcap (by omega) (by omega)]
          simp only [Result.andThen_ok]
          rw [bound_run kk l m.toNat .sliceB h0 (by omega)]
          exact congrArg (Result.ok · w) (fin l.toNat m.toNat)
      · exact h.elim
    · exact h.elim
  · exact h.elim
/-! ### building -/
def cellsX : SX → List SC
  | .v (.c x) => [x]
  | .v (.agg cs) => cs
  | .tup _ => []
def isTup : SX → Bool
  | .tup _ => true
  | _ => false
/-- Is what stands in the cell no aggregate of the model's? -/
def SC.flat : SC → Bool := SC.ok
theorem cells_den {x : SX} (ht : isTup x = false) (hf : (cellsX x).all SC.flat = true) (β : Env) : (x.den β).cells = ((cellsX x).map (·.den β)).toArray := by
  cases x with
  | tup vs => cases ht
  | v y =>
    cases y with
    | agg cs => rfl
    | c c =>
      simp only [cellsX, List.all_cons, List.all_nil, Bool.and_true] at hf
      show (c.den β).cells = #[c.den β]
      cases c with
      | val v => cases v <;> first | rfl | cases hf
      | ptr b off => rfl
      | sl b off l c => rfl
      | row => rfl
      | rsl => rfl
      | clo => rfl
      | opq => cases hf
      | lst k => rfl
      | lsub k sz lo n => show (subV (β.v k) sz lo n).cells = #[subV (β.v k) sz lo n]; unfold subV; split <;> rfl
      | ep k sz j off => rfl
      | mpv => rfl
def setL {α : Type} (cs : List α) : Nat → List α → List α
  | _, [] => cs
  | off, x :: xs => setL (cs.set off x) (off + 1) xs
theorem setL_map {α γ : Type} (f : α → γ) : ∀ (xs cs : List α) (off : Nat), (setL cs off xs).map f = setL (cs.map f) off (xs.map f)
  | [], _, _ => rfl
  | x :: xs, cs, off => by simp only [setL, List.map_cons, setL_map f xs, List.map_set]
theorem foldl_set : ∀ (l : List Value) (k off : Nat) (cells : Array Value), (l.zipIdx k).foldl (fun cs (p : Value × Nat) => cs.setIfInBounds (off + p.2) p.1) cells = (setL cells.toList (off + k) l).toArray
  | [], _, _, cells => by simp [setL]
  | x :: xs, k, off, cells => by
    simp only [List.zipIdx_cons, List.foldl_cons, setL]
    rw [foldl_set xs (k + 1) off]
    simp [Nat.add_assoc]
def fillS (place : Nat → Option (Nat × Nat)) : List SC → List (Nat × SX) → Option (List SC)
  | cs, [] => some cs
  | cs, (i, x) :: rest => match place i with
    | some (off, size) => bif Nat.beq (cellsX x).length size && ((cellsX x).all SC.flat && (!isTup x && Nat.ble (off + size) cs.length)) then fillS place (setL cs off (cellsX x)) rest else none
    | none => none
theorem fillS_den {place : Nat → Option (Nat × Nat)} (β : Env) : ∀ (ps : List (Nat × SX)) (cs r : List SC), fillS place cs ps = some r →
    Instr.fill place (cs.map (·.den β)).toArray (ps.map fun p => (p.1, p.2.den β)) = some (r.map (·.den β)).toArray
  | [], cs, r, h => by cases h; rfl
  | (i, x) :: rest, cs, r, h => by
    unfold fillS at h
    split at h
    · rename_i off size hp
      cases hg : (Nat.beq (cellsX x).length size && ((cellsX x).all SC.flat && (!isTup x && Nat.ble (off + size) cs.length))) with
      | false => rw [hg] at h; cases h
      | true =>
        rw [hg] at h
        simp only [Bool.and_eq_true, Bool.not_eq_true'] at hg
        obtain ⟨h1, h2, h3, h4⟩ := hg
        have h1 := Nat.eq_of_beq_eq_true h1
        have h4 := Nat.le_of_ble_eq_true h4
        have ih := fillS_den β rest _ r h
        simp only [List.map_cons, Instr.fill, hp]
        rw [cells_den h3 h2 β, if_neg (by simp [h1]; omega)]
        rw [← ih]
        congr 1
        rw [setL_map]
        have := foldl_set ((cellsX x).map (·.den β)) 0 off (cs.map (·.den β)).toArray
        rw [← Array.foldl_toList]
        simpa using this
    · cases h
def placesL (P : Program) : List Field → Option (List (Nat × Nat))
  | [] => some []
  | f :: fs => match P.info? f.type, placesL P fs with
    | some i, some r => some ((f.offset, i.size) :: r)
    | _, _ => none
theorem placesL_run {P : Program} : ∀ (l : List Field) (r : List (Nat × Nat)), placesL P l = some r → ∀ w, (l.mapM (fun f => do pure (f.offset, ← sizeOf f.type) : Field → Sem (Nat × Nat))).run P w = .ok r w
  | [], r, h, w => by cases h; rfl
  | f :: fs, r, h, w => by
    unfold placesL at h
    split at h
    · rename_i i r2 hi h2
      cases h
      rw [List.mapM_cons]
      simp only [Sem.run_bind, run_sizeOf' hi, Result.andThen_ok, Sem.run_pure, placesL_run fs r2 h2 w]
    · cases h
def buildX (P : Program) (t : TypeId) (ps : List (Nat × SX)) (k : SX → Prop) : Prop :=
  match P.info? t, P.underlying t with
  | some i, some d =>
    (match i.zero with
    | some z => (bif (cellsX (constX z)).all SC.flat && !isTup (constX z) then
      (match d with
      | .struct fs => (match placesL P fs.toList with
        | some pl => (match fillS (fun i => pl[i]?) (cellsX (constX z)) ps with
          | some r => k (.v (.agg r))
          | none => False)
        | none => False)
      | .array _ e => (match P.info? e with
        | some ei => (match fillS (fun i => some (i * ei.size, ei.size)) (cellsX (constX z)) ps with
          | some r => k (.v (.agg r))
          | none => False)
        | none => False)
      | _ => False)
      else False)
    | none => False)
  | _, _ => False
theorem buildX_sound {P : Program} {t : TypeId} {ps : List (Nat × SX)} {k : SX → Prop} (h : buildX P t ps k) :
    ∃ y, k y ∧ ∀ (β : Env) (w : World) (qs : Array (Nat × Value)), qs.toList = ps.map (fun p => (p.1, p.2.den β)) → (Instr.build t qs).run P w = .ok (y.den β) w := by
  unfold buildX at h
  split at h
  · rename_i i d hi hd
    split at h
    · rename_i z hz
      cases hg : ((cellsX (constX z)).all SC.flat && !isTup (constX z)) with
      | false => rw [hg] at h; exact h.elim
      | true =>
        rw [hg] at h
        simp only [Bool.and_eq_true, Bool.not_eq_true'] at hg
        have hzc : ∀ β, z.cells = ((cellsX (constX z)).map (·.den β)).toArray := fun β => by rw [← cells_den hg.2 hg.1 β, constX_den]
        simp only [cond_true] at h
        split at h
        · rename_i fs
          split at h
          · rename_i pl hpl
            split at h
            · rename_i r hr
              refine ⟨_, h, fun β w qs hq => ?_⟩
              have hm : fs.mapM (fun f => do pure (f.offset, ← sizeOf f.type) : Field → Sem (Nat × Nat)) = List.toArray <$> fs.toList.mapM (fun f => do pure (f.offset, ← sizeOf f.type) : Field → Sem (Nat × Nat)) := Array.mapM_eq_mapM_toList
              have hf := fillS_den β ps _ r hr
              rw [← hq, ← hzc β] at hf
              have hf2 : Instr.fill (fun i => pl.toArray[i]?) z.cells qs.toList = some (r.map (·.den β)).toArray := by rw [← hf]; congr 1; funext i; rw [List.getElem?_toArray]
              simp only [Instr.build, Sem.run_bind, zeroValue, typeInfo, program, Sem.run, hi, Sem.run_pure, Result.andThen_ok, hz, run_underlying hd]
              rw [hm, Sem.run_map, placesL_run _ _ hpl]
              simp only [Result.andThen_ok]
              rw [hf2]
              rfl
            · exact h.elim
          · exact h.elim
        · rename_i n e
          split at h
          · rename_i ei hei
            split at h
            · rename_i r hr
              refine ⟨_, h, fun β w qs hq => ?_⟩
              have hf := fillS_den β ps _ r hr
              rw [← hq, ← hzc β] at hf
              simp only [Instr.build, Sem.run_bind, zeroValue, typeInfo, program, Sem.run, hi, Sem.run_pure, Result.andThen_ok, hz, run_underlying hd, run_sizeOf' hei]
              rw [hf]
              rfl
            · exact h.elim
          · exact h.elim
        · exact h.elim
    · exact h.elim
  · exact h.elim
/-! ### the value operations together -/
def capsX : List SX → Option (List (Nat × Nat))
  | [] => some []
  | .v (.c (.ptr b off)) :: r => (capsX r).map ((b, off) :: ·)
  | _ => none
theorem capsX_den (β : Env) : ∀ (l : List SX) (c : List (Nat × Nat)), capsX l = some c → l.map (·.den β) = c.map fun p => Value.pointer (some ⟨β p.1, p.2, none⟩)
  | [], c, h => by cases h; rfl
  | x :: r, c, h => by
    unfold capsX at h
    split at h
    · rename_i e; cases e
    · rename_i b off r2 e
      cases e
      cases hc : capsX r with
      | none => rw [hc] at h; cases h
      | some c2 => rw [hc] at h; cases h; simp only [List.map_cons, capsX_den β r c2 hc, den_ptr]
    · cases h
def funX (P : Program) (ts : List SX) (o : Oper) (fn : Fn) (first captured : Array Operand) (k : SX → Prop) : Prop :=
  match fn with
  | .func f => (bif first.toList.isEmpty then (match capsX (captured.toList.map (rd ts)) with
    | some c => k (SX.one (.clo f c))
    | none => pureOp P ts o k) else pureOp P ts o k)
  | _ => pureOp P ts o k
def lenX (P : Program) (M : List Blk) (ts : List SX) (o : Oper) (c : Call) (k : SX → Prop) : Prop :=
  match c.callee, c.args.toList with
  | .builtin .len, [x] =>
    (match rd ts x with
    | .v (.c (.sl _ _ n _)) => (match c.argTypes[0]? with
      | some t => (match P.underlying t with
        | some (.slice _) => k (SX.one (.val (.int .i64 (n : Int))))
        | _ => False)
      | none => False)
    | .v (.c (.lst b)) => (match c.argTypes[0]?, M[b]? with
      | some t, some (.lst _ _ n _) => (match P.underlying t with
        | some (.slice _) => k (SX.one (.val (.int .i64 (n : Int))))
        | _ => False)
      | _, _ => False)
    | .v (.c (.lsub b _ lo len)) => (match c.argTypes[0]?, M[b]? with
      | some t, some (.lst _ _ n _) => (match P.underlying t with
        | some (.slice _) => In ((lo : Int) + (len : Int)) ((n : Int) + 1) ∧ k (SX.one (.val (.int .i64 (len : Int))))
        | _ => False)
      | _, _ => False)
    | _ => pureOp P ts o k)
  | _, _ => pureOp P ts o k
/-- A slice of one byte, turned into a string. -/
def cvX (P : Program) (M : List Blk) (ts : List SX) (o : Oper) (src dst : TypeId) (x : SX) (k : SX → Prop) : Prop :=
  match x with
  | .v (.c (.sl b off n _)) =>
    (bif Nat.beq n 1 then (match M[b]?, P.underlying src, P.underlying dst with
    | some blk, some (.slice e), some .string => (match P.underlying e, blk.cells[off]? with
      | some (.int .u8), some (.val (.int .u8 v)) => k (SX.one (.val (.string (ByteArray.empty.push (UInt8.ofNat v.toNat)))))
      | _, _ => False)
    | _, _, _ => False) else False)
  | _ => pureOp P ts o k
theorem cvX_sound {P : Program} {O : Nat → Prop} {w0 : World} {M : List Blk} {ts : List SX} {o : Oper} {src dst : TypeId} {y : Operand} {k : SX → Prop} (ho : o.op = .convert src dst y) (h : cvX P M ts o src dst (rd ts y) k) : ∃ x, k x ∧ Good P O w0 M ts o x := by
  unfold cvX at h
  split at h
  · rename_i b off n c hx
    cases hn : Nat.beq n 1 with
    | false => rw [hn] at h; exact h.elim
    | true =>
      have hn := Nat.eq_of_beq_eq_true hn
      subst hn
      rw [show Nat.beq 1 1 = true from rfl] at h
      simp only [cond_true] at h
      split at h
      · rename_i blk e hb hs hd
        split at h
        · rename_i v he hc
          refine ⟨_, h, fun β w df hI => ?_⟩
          have hcell := hI.cell hb hc
          simp only [execOp, ho, rd_den, hx, SX.one, SX.den, SV.den, SC.den, convert, Sem.run_bind, run_underlying hs, run_underlying hd, run_underlying he, Result.andThen_ok, Conv.bytesToString]
          rw [show loadCells ⟨β b, off, none⟩ 1 = loadCellsFrom ⟨β b, off, none⟩ 0 1 #[] from rfl, loads_run (β b) [.int .u8 v] 1 0 off #[] (fun j hj => by
            have hj : j = 0 := by omega
            subst hj
            exact ⟨.int .u8 v, rfl, hcell⟩)]
          simp [Sem.run_pure]
        · exact h.elim
      · exact h.elim
  · exact pureOp_sound h
def valOp (P : Program) (O : Nat → Prop) (w0 : World) (M : List Blk) (ts : List SX) (o : Oper) (k : SX → Prop) : Prop :=
  match o.op with
  | .move x => k (rd ts x)
  | .assign x => k (rd ts x)
  | .pick c a b => pickX (rd ts c) (rd ts a) (rd ts b) k
  | .load t x => ldX P O w0 M t (rd ts x) k
  | .fieldAddr s x f => faX P s (rd ts x) f k
  | .field t x f => fieldX P t (rd ts x) f k
  | .extract x i => extX (rd ts x) i k
  | .nilCheck x => nilX P ts o (rd ts x) k
  | .binOp op t x y _ => binX P M ts o op t (rd ts x) (rd ts y) k
  | .indexAddr t x i => ixX P M t (rd ts x) (rd ts i) k
  | .index t x i => ivX P t (rd ts x) (rd ts i) k
  | .slice t x lo hi mx => (match mx with
    | none => slX P M ts t (rd ts x) lo hi k
    | some _ => False)
  | .build t ps => buildX P t (ps.toList.map fun p => (p.1, rd ts p.2)) k
  | .makeFunc fn first captured => funX P ts o fn first captured k
  | .call c => lenX P M ts o c k
  | .convert src dst x => cvX P M ts o src dst (rd ts x) k
  | _ => pureOp P ts o k
def isBin : Op → Bool
  | .binOp .. => true
  | _ => false
theorem valOp_sound1 {P : Program} {O : Nat → Prop} {w0 : World} {M : List Blk} {ts : List SX} {o : Oper} {k : SX → Prop} (h : valOp P O w0 M ts o k) (hnb : isBin o.op = false) : ∃ x, k x ∧ Good P O w0 M ts o x := by
  unfold valOp at h
  split at h
  · rename_i x ho
    exact ⟨_, h, fun β w df _ => by simp only [execOp, ho, rd_den, Sem.run_pure]⟩
  · rename_i x ho
    exact ⟨_, h, fun β w df _ => by simp only [execOp, ho, rd_den, Sem.run_pure]⟩
  · rename_i c a b ho
    obtain ⟨y, hk, t, ht, hy⟩ := pickX_sound h
    refine ⟨y, hk, fun β w df _ => ?_⟩
    simp only [execOp, ho, rd_den, ht, asBool, Sem.run_bind, Sem.run_pure, Result.andThen_ok, hy]
  · rename_i t x ho
    obtain ⟨y, hk, hy⟩ := ldX_sound h
    refine ⟨y, hk, fun β w df hI => ?_⟩
    simp only [execOp, ho, rd_den, Sem.run_bind, hy β w hI, Result.andThen_ok, Sem.run_pure]
  · rename_i s x f ho
    obtain ⟨y, hk, hy⟩ := faX_sound h
    refine ⟨y, hk, fun β w df hI => ?_⟩
    simp only [execOp, ho, rd_den, Sem.run_bind, hy β w, Result.andThen_ok, Sem.run_pure]
  · rename_i t x f ho
    obtain ⟨y, hk, hy⟩ := fieldX_sound h
    refine ⟨y, hk, fun β w df hI => ?_⟩
    simp only [execOp, ho, rd_den, Sem.run_bind, hy β w, Result.andThen_ok, Sem.run_pure]
  · rename_i x i ho
    unfold extX at h
    split at h
    · rename_i vs hx
      split at h
      · rename_i y hy
        refine ⟨_, h, fun β w df _ => ?_⟩
        simp only [execOp, ho, rd_den, hx, Sem.run_bind, Instr.extract, SX.den]
        simp [hy]
      · exact h.elim
    · exact h.elim
  · rename_i x ho
    unfold nilX at h
    split at h
    · rename_i b off hx
      refine ⟨_, h, fun β w df _ => ?_⟩
      simp only [execOp, ho, rd_den, hx, SX.one, SX.den, SV.den, SC.den, Sem.run_pure]
    · rename_i A sz at_ j off hx
      obtain ⟨hs, h⟩ := h
      refine ⟨_, h, fun β w df _ => ?_⟩
      obtain ⟨a, rfl⟩ := Option.isSome_iff_exists.1 hs
      simp only [execOp, ho, rd_den, hx, SX.one, SX.den, SV.den, SC.den, Option.map_some, Sem.run_pure]
    · rename_i b sz j off hx
      refine ⟨_, h, fun β w df _ => ?_⟩
      simp only [execOp, ho, rd_den, hx, SX.one, SX.den, SV.den, SC.den, elemV, Sem.run_pure]
    · exact pureOp_sound h
  · rename_i op t x y u ho
    rw [ho] at hnb; cases hnb
  · rename_i t x i ho
    obtain ⟨y, hk, hy⟩ := ixX_sound h
    refine ⟨y, hk, fun β w df hI => ?_⟩
    simp only [execOp, ho, rd_den, Sem.run_bind, hy β w hI.lf, Result.andThen_ok, Sem.run_pure]
  · rename_i t x i ho
    obtain ⟨y, hk, hy⟩ := ivX_sound h
    refine ⟨y, hk, fun β w df hI => ?_⟩
    simp only [execOp, ho, rd_den, Sem.run_bind, hy β w, Result.andThen_ok, Sem.run_pure]
  · rename_i t x lo hi mx ho
    split at h
    · obtain ⟨y, hk, hy⟩ := slX_sound h
      refine ⟨y, hk, fun β w df hI => ?_⟩
      have := hy β w df hI.lf
      simp only [execOp, ho, Sem.run_bind, Option.map_none]
      rw [rd_den, this]
      rfl
    · exact h.elim
  · rename_i t ps ho
    obtain ⟨y, hk, hy⟩ := buildX_sound h
    refine ⟨y, hk, fun β w df hI => ?_⟩
    have := hy β w (ps.map fun p => (p.1, Act.eval ⟨fr β ts, df⟩ p.2)) (by
      rw [Array.toList_map, List.map_map]
      refine List.map_congr_left fun p _ => ?_
      show (p.1, Act.eval ⟨fr β ts, df⟩ p.2) = (p.1, (rd ts p.2).den β)
      rw [rd_den])
    simp only [execOp, ho, Sem.run_bind]
    rw [this]
    rfl
  · rename_i fn first captured ho
    unfold funX at h
    split at h
    · rename_i f
      cases he : first.toList.isEmpty with
      | false => rw [he] at h; exact pureOp_sound h
      | true =>
        rw [he] at h
        simp only [cond_true] at h
        split at h
        · rename_i c hc
          refine ⟨_, h, fun β w df _ => ?_⟩
          have hd := capsX_den β _ c hc
          have hf : first = #[] := by cases first; simp_all
          subst hf
          simp only [execOp, ho, Instr.makeFunc, Sem.run_bind, Sem.run_pure, Result.andThen_ok]
          have e : captured.map (Act.eval ⟨fr β ts, df⟩) = (c.map fun p => Value.pointer (some ⟨β p.1, p.2, none⟩)).toArray := by
            apply Array.toList_inj.1
            rw [Array.toList_map, ← hd, List.map_map]
            exact List.map_congr_left fun x _ => rd_den β ts df x
          rw [e, Array.map_empty]
          rfl
        · exact pureOp_sound h
    · exact pureOp_sound h
  · rename_i c ho
    unfold lenX at h
    split at h
    · rename_i x hcal hargs
      split at h
      · rename_i b off n cp hx
        split at h
        · rename_i t ht
          split at h
          · rename_i e he
            refine ⟨_, h, fun β w df _ => ?_⟩
            have ha : c.args = #[x] := by cases hh : c.args; simp_all
            simp only [execOp, ho, resolve, hcal, ha, Sem.run_bind, Sem.run_pure, Result.andThen_ok, invoke, builtin]
            have e2 : Act.eval ⟨fr β ts, df⟩ x = .slice (some ⟨β b, off, none⟩) n cp := by rw [rd_den, hx]; rfl
            simp [Builtin.len_, ht, run_underlying he, e2, goInt, den_one, SC.den]
          · exact h.elim
        · exact h.elim
      · rename_i b hx
        split at h
        · rename_i t e0 sz n f ht hb
          split at h
          · rename_i e he
            refine ⟨_, h, fun β w df hI => ?_⟩
            have ha : c.args = #[x] := by cases hh : c.args; simp_all
            have hn := (hI.lf b e0 sz n f hb).1
            simp only [execOp, ho, resolve, hcal, ha, Sem.run_bind, Sem.run_pure, Result.andThen_ok, invoke, builtin]
            have e2 : Act.eval ⟨fr β ts, df⟩ x = .slice (β.v b).1 (β.v b).2.1 (β.v b).2.2 := by rw [rd_den, hx]; rfl
            simp [Builtin.len_, ht, run_underlying he, e2, goInt, den_one, SC.den, hn]
          · exact h.elim
        · exact h.elim
      · rename_i b sz0 lo len hx
        split at h
        · rename_i t e0 sz n f ht hb
          split at h
          · rename_i e he
            obtain ⟨⟨_, h2⟩, hk⟩ := h
            refine ⟨_, hk, fun β w df hI => ?_⟩
            have ha : c.args = #[x] := by cases hh : c.args; simp_all
            have hf := hI.lf b e0 sz n f hb
            simp only [execOp, ho, resolve, hcal, ha, Sem.run_bind, Sem.run_pure, Result.andThen_ok, invoke, builtin]
            have e2 : ∃ a' c', Act.eval ⟨fr β ts, df⟩ x = .slice a' len c' := by
              rw [rd_den, hx]
              show ∃ a' c', subV (β.v b) sz0 lo len = .slice a' len c'
              unfold subV
              split
              · have : len = 0 := by omega
                rw [this]; exact ⟨_, _, rfl⟩
              · exact ⟨_, _, rfl⟩
            obtain ⟨a', c', e2⟩ := e2
            simp [Builtin.len_, ht, run_underlying he, e2, goInt, den_one, SC.den]
          · exact h.elim
        · exact h.elim
      · exact pureOp_sound h
    · exact pureOp_sound h
  · rename_i src dst x ho
    exact cvX_sound ho h
  · exact pureOp_sound h
theorem valOp_sound {P : Program} {O : Nat → Prop} {w0 : World} {M : List Blk} {ts : List SX} {o : Oper} {k : SX → Prop} (h : valOp P O w0 M ts o k) :
    ∀ (β : Env) (w : World) (df : List Deferred), Inv O w0 β M w → ∃ x, k x ∧ (execOp (Act.eval ⟨fr β ts, df⟩) o).run P w = .ok (.value (x.den β)) w := by
  cases hb : isBin o.op with
  | false =>
    obtain ⟨x, hk, hg⟩ := valOp_sound1 h hb
    exact fun β w df hI => ⟨x, hk, hg β w df hI⟩
  | true =>
    unfold valOp at h
    cases ho : o.op with
    | binOp op t x y u => rw [ho] at h; exact binX_sound ho h
    | _ => rw [ho] at hb; cases hb
/-! ### operations that make memory or write it -/
theorem constX_lt (z : Value) (n : Nat) : (cellsX (constX z)).all (·.lt n) = true := by cases z <;> simp [constX, cellsX, SX.one, SC.lt]
theorem zeros_run (zero : Array Value) (n size : Nat) (hz : zero.size = size) : ((Array.range (n * size)).map (zero[· % zero.size]!)) = ((List.replicate n zero.toList).flatten).toArray := by
  apply Array.toList_inj.1
  simp only [Array.toList_map, Array.toList_range, hz]
  induction n with
  | zero => simp
  | succ n ih =>
    rw [List.replicate_succ', List.flatten_append, Nat.succ_mul, List.range_add, List.map_append, ih]
    congr 1
    simp only [List.flatten_cons, List.flatten_nil, List.append_nil, List.map_map]
    apply List.ext_getElem
    · simp [hz]
    · intro i h1 h2
      have hi : i < size := by simpa using h1
      have : (n * size + i) % size = i := by rw [Nat.add_comm, Nat.add_mul_mod_self_right, Nat.mod_eq_of_lt hi]
      simp [this, getElem!_pos zero i (by omega)]
def allLt (n : Nat) (M : List Blk) (ts : List SX) : Bool := memLt n M && ts.all (·.lt n)
def setAll (M : List Blk) (b : Nat) : Nat → List SC → List Blk
  | _, [] => M
  | off, x :: xs => setAll (setC M b off x) b (off + 1) xs
def over {α : Type} : List α → List α → List α
  | cs, [] => cs
  | [], _ :: _ => []
  | _ :: cs, x :: xs => x :: over cs xs
def spl {α : Type} : List α → Nat → List α → List α
  | cs, 0, xs => over cs xs
  | [], _ + 1, _ => []
  | c :: cs, n + 1, xs => c :: spl cs n xs
theorem spl_nil {α : Type} : ∀ (cs : List α) (n : Nat), spl cs n [] = cs
  | [], 0 => rfl
  | _ :: _, 0 => rfl
  | [], _ + 1 => rfl
  | c :: cs, n + 1 => by simp only [spl, spl_nil cs n]
theorem spl_cons {α : Type} (x : α) (xs : List α) : ∀ (cs : List α) (n : Nat), spl cs n (x :: xs) = spl (cs.set n x) (n + 1) xs
  | [], 0 => rfl
  | _ :: cs, 0 => by cases cs <;> cases xs <;> rfl
  | [], _ + 1 => rfl
  | c :: cs, n + 1 => by simp only [spl, List.set_cons_succ, spl_cons x xs cs n]
theorem setL_spl {α : Type} : ∀ (xs cs : List α) (off : Nat), setL cs off xs = spl cs off xs
  | [], cs, off => (spl_nil cs off).symm
  | x :: xs, cs, off => by simp only [setL]; rw [setL_spl xs, spl_cons]
def setB (M : List Blk) (b off : Nat) (xs : List SC) : List Blk := M.modify b (updB fun cs => spl cs off xs)
theorem updB_id (b : Blk) : updB (fun cs => cs) b = b := by cases b <;> rfl
theorem setAll_B : ∀ (xs : List SC) (M : List Blk) (b off : Nat), setAll M b off xs = setB M b off xs
  | [], M, b, off => by
    unfold setB setAll
    have : (updB fun cs => spl cs off []) = id := by
      funext k
      have e : (fun cs : List SC => spl cs off []) = fun cs => cs := funext fun cs => spl_nil cs off
      rw [e, updB_id]; rfl
    rw [this, List.modify_id]
  | x :: xs, M, b, off => by
    simp only [setAll]
    rw [setAll_B xs]
    unfold setB setC
    apply List.ext_getElem?
    intro i
    simp only [List.getElem?_modify]
    by_cases e : b = i
    · simp only [e, if_true]
      cases M[i]? with
      | none => rfl
      | some k => cases k <;> simp [updB, spl_cons]
    · simp [e]
/-- The room that an append may ask for. -/
structure Room (n bytes : Nat) : Prop where
  le : (n + n / 4 + 192) * bytes ≤ 281474976710656
/-- Elements that came in, to be appended. -/
structure RowsOk (O : Nat → Prop) (w0 : World) (A : Option Addr) (sz : Nat) (at_ : Nat → List SC) (lo m : Nat) : Prop where
  out : ∀ j, j < m → A.isSome = true ∧ RowAt O w0 A sz (at_ (lo + j)) (lo + j) ∧ (at_ (lo + j)).length = sz ∧ (at_ (lo + j)).all SC.ok = true
def chunks (sz : Nat) : Nat → List SC → List (List SC)
  | 0, _ => []
  | n + 1, cs => cs.take sz :: chunks sz n (cs.drop sz)
def joinF (n : Nat) (f g : Nat → List SC) : Nat → List SC := fun j => bif Nat.blt j n then f j else g (j - n)
/-- What is appended: how many elements, which. -/
def srcX (O : Nat → Prop) (w0 : World) (M : List Blk) (sz : Nat) (x : SX) (k : Nat → (Nat → List SC) → Prop) : Prop :=
  match x with
  | .v (.c (.sl b off m _)) => (match M[b]? with
    | some (.mk _ cs) => (bif Nat.ble (off + m * sz) cs.length && ((cs.drop off).all (·.lt 0) && (cs.drop off).all SC.ok) then
        (match m with
        | 1 => k 1 (fun _ => (cs.drop off).take sz)
        | m => k m (fun j => (chunks sz m (cs.drop off)).getD j [])) else False)
    | _ => False)
  | .v (.c (.rsl A sz' at_ lo m _)) => bif Nat.beq sz' sz then RowsOk O w0 A sz at_ lo m ∧ k m (fun j => at_ (lo + j)) else False
  | .v (.c (.lst b)) => (match M[b]? with
    | some (.lst _ sz' n f) => bif Nat.beq sz' sz then k n f else False
    | _ => False)
  | .v (.c (.val (.slice none 0 _))) => k 0 (fun _ => [])
  | _ => False
/-- What is appended to: how many elements, which, and the memory without it. -/
def dstX (M : List Blk) (e : TypeId) (sz : Nat) (x : SX) (k : Nat → (Nat → List SC) → List Blk → Prop) : Prop :=
  match x with
  | .v (.c (.sl b off m cap)) => (match M[b]? with
    | some (.mk e' cs) => (bif Nat.beq e' e && (Nat.beq off 0 && (Nat.beq m cap && (Nat.beq cs.length (m * sz) && (Nat.ble m maxLen && (cs.all (·.lt 0) && cs.all SC.ok))))) then
        k m (fun j => (chunks sz m cs).getD j []) (M.set b .dead) else False)
    | _ => False)
  | .v (.c (.lst b)) => (match M[b]? with
    | some (.lst e' sz' n f) => bif Nat.beq e' e && Nat.beq sz' sz then k n f (M.set b .dead) else False
    | _ => False)
  | .v (.c (.val (.slice none 0 0))) => k 0 (fun _ => []) M
  | _ => False
def apX (P : Program) (O : Nat → Prop) (w0 : World) (M : List Blk) (ts : List SX) (c : Call) (k : SX → List Blk → Prop) : Prop :=
  match c.args.toList, c.argTypes.toList with
  | [s, x], [t, t'] =>
    (match P.underlying t with
    | some (.slice e) => (match P.info? e with
      | some i => (match i.zero with
        | some z => (bif Nat.beq t t' && (allLt M.length M ts && (Nat.beq (cellsX (constX z)).length i.size && (!isTup (constX z) && ((cellsX (constX z)).all SC.flat && (Nat.blt 0 i.size && Nat.blt 0 i.bytes))))) then
            srcX O w0 M i.size (rd ts x) (fun m g => dstX M e i.size (rd ts s) (fun n f M' =>
              Room (n + m) i.bytes ∧ k (SX.one (.lst M.length)) (M' ++ [.lst e i.size (n + m) (joinF n f g)])))
          else False)
        | none => False)
      | none => False)
    | _ => False)
  | _, _ => False
/-- The length and the capacity of a make. -/
structure MakeN (n c : Int) (bytes : Nat) : Prop where
  lo : 0 ≤ n
  le : n ≤ c
  room : (bytes : Int) * c ≤ 281474976710656
def isConstO : Operand → Bool
  | .const _ => true
  | _ => false
/-- What an operation with an effect leaves: a value (or nothing) and the memory. -/
def effOp (P : Program) (M : List Blk) (ts : List SX) (o : Oper) (k : SX → List Blk → Prop) : Prop :=
  match o.op with
  | .alloc e =>
    (match P.info? e with
    | some i => (match i.zero with
      | some z => (bif allLt M.length M ts && ((cellsX (constX z)).all SC.flat && !isTup (constX z)) then k (SX.one (.ptr M.length 0)) (M ++ [.mk e (cellsX (constX z))]) else False)
      | none => False)
    | none => False)
  | .box e x => (bif allLt M.length M ts && ((cellsX (rd ts x)).all SC.flat && ((cellsX (rd ts x)).all (·.lt M.length) && !isTup (rd ts x))) then k (SX.one (.ptr M.length 0)) (M ++ [.mk e (cellsX (rd ts x))]) else False)
  | .store t a x =>
    (match rd ts a with
    | .v (.c (.ptr b off)) =>
      (match M[b]?, P.info? t with
      | some (.mk _ cs), some i => (bif Nat.beq (cellsX (rd ts x)).length i.size && ((cellsX (rd ts x)).all SC.flat && (!isTup (rd ts x) && Nat.ble (off + i.size) cs.length)) then k undefX (setB M b off (cellsX (rd ts x))) else False)
      | _, _ => False)
    | .v (.c (.ep b sz j off)) =>
      (match M[b]?, P.info? t with
      | some (.lst e sz' n f), some i => (bif Nat.beq sz' sz && (Nat.beq (cellsX (rd ts x)).length i.size && ((cellsX (rd ts x)).all SC.flat && ((cellsX (rd ts x)).all (·.lt 0) && (!isTup (rd ts x) && Nat.ble (off + i.size) (f j).length)))) then
          In (j : Int) (n : Int) ∧ k undefX (M.set b (.lst e sz n (fun j' => bif Nat.beq j' j then spl (f j) off (cellsX (rd ts x)) else f j'))) else False)
      | _, _ => False)
    | _ => False)
  | .buildSlice t 0 ps =>
    (match P.underlying t with
    | some (.slice e) =>
      (match P.info? e with
      | some ei => (bif allLt M.length M ts && ps.toList.isEmpty then k (SX.one (.lst M.length)) (M ++ [.lst e ei.size 0 (fun _ => [])]) else False)
      | none => False)
    | _ => False)
  | .buildSlice t len ps =>
    (match P.underlying t with
    | some (.slice e) =>
      (match P.info? e with
      | some ei => (match ei.zero with
        | some z =>
          (bif allLt M.length M ts && ((cellsX (constX z)).all SC.flat && (!isTup (constX z) && (Nat.beq (cellsX (constX z)).length ei.size && (Nat.ble (len * ei.size) 16777216 && Nat.blt 0 (len * ei.size))))) then
            (match fillS (fun i => some (i * ei.size, ei.size)) ((List.replicate len (cellsX (constX z))).flatten) (ps.toList.map fun p => (p.1, rd ts p.2)) with
            | some r => (bif r.all (·.lt M.length) then k (SX.one (.sl M.length 0 len len)) (M ++ [.mk e r]) else False)
            | none => False)
          else False)
        | none => False)
      | none => False)
    | _ => False)
  | .makeSlice t l c =>
    (match P.underlying t, rd ts l, rd ts c with
    | some (.slice e), .v (.c (.val (.int _ n))), .v (.c (.val (.int _ n2))) =>
      (match P.info? e with
      | some ei => (match ei.zero with
        | some z =>
          (bif isConstO l then (bif allLt M.length M ts && ((cellsX (constX z)).all SC.flat && (!isTup (constX z) && (Nat.beq (cellsX (constX z)).length ei.size && (decide (0 < n) && (decide (n = n2) && (decide (n * ei.bytes ≤ 1048576) && (decide (n ≤ 1048576) && Nat.blt 0 ei.size))))))) then
            k (SX.one (.sl M.length 0 n.toNat n.toNat)) (M ++ [.mk e ((List.replicate n.toNat (cellsX (constX z))).flatten)])
          else False)
          else (bif allLt M.length M ts && ((cellsX (constX z)).all SC.flat && (!isTup (constX z) && (Nat.beq (cellsX (constX z)).length ei.size && (Nat.blt 0 ei.size && Nat.blt 0 ei.bytes)))) then
            MakeN n n2 ei.bytes ∧ k (SX.one (.lst M.length)) (M ++ [.lst e ei.size n.toNat (fun _ => cellsX (constX z))])
          else False))
        | none => False)
      | none => False)
    | _, _, _ => False)
  | _ => False
/-! ### maps of our own, from int to int -/
/-- A map of at most n entries that reads as D. -/
def MapQ (P : Program) (kt et : TypeId) (n : Nat) (D : DataW Unit) (o : Option Obj) : Prop :=
  ∃ es clock, o = some (.map es clock) ∧ Go.WideElems.Fit P kt (plainElem (H := Unit) P et) es clock ∧ es.size ≤ n ∧ D = .map ((es.toList.map (Go.WideElems.rg P kt (plainElem (H := Unit) P et))).foldr DataW.insert [])
/-- What a map holds behind its updates (the newest ahead). -/
def dataH : List (Int × Int) → DataW Unit
  | [] => .map []
  | p :: r => (dataH r).put (.int .i64 p.1) (.lit (.int .i64 p.2))
def MapH (P : Program) (kt et : TypeId) (d : List (Int × Int)) : Option Obj → Prop := MapQ P kt et d.length (dataH d)
theorem MapQ.owns {P : Program} {kt et : TypeId} {n : Nat} {D : DataW Unit} {w : World} {b : Nat} : MapQ P kt et n D (w.heap[b]?) ↔ w.ownsMap P kt (plainElem P et) b n D := Iff.rfl
structure I64 (n : Int) : Prop where
  lo : -9223372036854775808 ≤ n
  hi : n ≤ 9223372036854775807
theorem I64.wf {n : Int} (h : I64 n) : (Lit.int .i64 n).wf = true := by
  simp [Lit.wf, IntKind.min, IntKind.max, IntKind.bits, IntKind.signed]
  exact ⟨h.lo, by have := h.hi; omega⟩
def isI64 (P : Program) (t : TypeId) : Bool := match P.underlying t with
  | some (.int .i64) => true
  | _ => false
theorem isI64_of {P : Program} {t : TypeId} (h : isI64 P t = true) : P.underlying t = some (.int .i64) := by
  unfold isI64 at h
  split at h
  · rename_i h2; exact h2
  · cases h
def mapX (P : Program) (M : List Blk) (ts : List SX) (o : Oper) (k : SX → List Blk → Prop) : Prop :=
  match o.op with
  | .makeMap t none =>
    (match P.underlying t with
    | some (.map kt et) => (bif allLt M.length M ts && (isI64 P kt && isI64 P et) then k (SX.one (.mpv M.length)) (M ++ [.ab ⟨[], MapH P kt et []⟩]) else False)
    | _ => False)
  | .mapUpdate t m x v =>
    (match rd ts m, rd ts x, rd ts v with
    | .v (.c (.mpv b)), .v (.c (.val (.int .i64 a))), .v (.c (.val (.int .i64 c))) =>
      (match M[b]?, P.underlying t with
      | some (Blk.ab Q), some (.map kt et) => (bif isI64 P kt && isI64 P et then
          Q.P = MapH P kt et Q.d ∧ In (Q.d.length : Int) 9223372036854775807 ∧ I64 a ∧ I64 c ∧ k undefX (M.set b (.ab ⟨(a, c) :: Q.d, MapH P kt et ((a, c) :: Q.d)⟩))
        else False)
      | _, _ => False)
    | _, _, _ => False)
  | _ => False
def bOf (x : SX) : Option Nat :=
  match x with
  | .v (.c (.lst b)) => some b
  | .v (.c (.sl b _ _ _)) => some b
  | _ => none
def lsOf (x : SX) : Option Nat :=
  match x with
  | .v (.c (.lsub b _ _ _)) => some b
  | _ => none
def tgt (ts : List SX) (o : Oper) : Option Nat :=
  match o.op with
  | .store _ a _ => (match rd ts a with
    | .v (.c (.ptr b _)) => some b
    | .v (.c (.ep b _ _ _)) => some b
    | _ => none)
  | .mapUpdate _ m _ _ => (match rd ts m with
    | .v (.c (.mpv b)) => some b
    | _ => none)
  | .call c => (match c.callee, c.args.toList with
    | .builtin .append, s :: _ => bOf (rd ts s)
    | .builtin .clear, s :: _ => lsOf (rd ts s)
    | _, _ => none)
  | _ => none
def Keeps (β : Env) (M : List Blk) (ts : List SX) (o : Oper) (w w' : World) : Prop := ∀ r, r < w.heap.size → (∀ b a, tgt ts o = some b → M[b]? = some a → a.real β b → r ≠ β b) → w'.heap[r]? = w.heap[r]?
theorem keeps_push (β : Env) (M : List Blk) (ts : List SX) (o : Oper) (w : World) (x : Obj) : Keeps β M ts o w { w with heap := w.heap.push x } := fun r hr _ => by
  show (w.heap.push x)[r]? = _
  rw [Array.getElem?_push, if_neg (by omega)]
def GoodE (P : Program) (O : Nat → Prop) (w0 : World) (M : List Blk) (ts : List SX) (o : Oper) (x : SX) (M' : List Blk) : Prop :=
  ∀ (β : Env) (w : World) (df : List Deferred), Inv O w0 β M w →
    ∃ β' w' nx, (execOp (Act.eval ⟨fr β ts, df⟩) o).run P w = .ok nx w' ∧ (nx = .value (x.den β') ∨ (nx = .skip ∧ x.den β' = undef)) ∧ Inv O w0 β' M' w' ∧ Ext M.length β β' ∧ fr β' ts = fr β ts ∧ M.length ≤ M'.length ∧ Keeps β M ts o w w'
theorem fr_ext {n : Nat} {β β' : Env} (h : Ext n β β') {ts : List SX} (hx : ts.all (·.lt n) = true) : fr β' ts = fr β ts := by unfold fr; rw [frame_ext h hx]
theorem store_one {P : Program} {w : World} {β : Env} {b off : Nat} {x : SC} {v : Value} (hc : w.cell? ⟨β b, off, none⟩ = some v) (hz : w.frozen? ⟨β b, off, none⟩ = false) (hok : x.ok = true) :
    (store ⟨β b, off, none⟩ (x.den β)).run P w = .ok () (w.setCell ⟨β b, off, none⟩ (x.den β)) := by
  unfold store
  cases x with
  | val v => cases v <;> first | (simp only [SC.den, Sem.run, hc, hz]; rfl) | cases hok
  | ptr b2 off2 => simp only [SC.den, Sem.run, hc, hz]; rfl
  | sl b2 off2 l c => simp only [SC.den, Sem.run, hc, hz]; rfl
  | row => simp only [SC.den, Sem.run, hc, hz]; rfl
  | rsl => simp only [SC.den, Sem.run, hc, hz]; rfl
  | clo => simp only [SC.den, Sem.run, hc, hz]; rfl
  | opq => cases hok
  | lst k => simp only [SC.den, Env.sv, Sem.run, hc, hz]; rfl
  | lsub k sz lo n =>
    simp only [SC.den]
    unfold subV
    split <;> (simp only [Sem.run, hc, hz]; rfl)
  | ep => simp only [SC.den, elemV, Sem.run, hc, hz]; rfl
  | mpv => simp only [SC.den, Sem.run, hc, hz]; rfl
theorem store_run {P : Program} {O : Nat → Prop} {w0 : World} {β : Env} {b : Nat} {e0 : TypeId} : ∀ (xs : List SC) (M : List Blk) (w : World) (off : Nat) (A : Addr) (i : Nat) (cs0 : List SC), Inv O w0 β M w →
    M[b]? = some (.mk e0 cs0) → off + xs.length ≤ cs0.length → xs.all SC.flat = true → A.add i = ⟨β b, off, none⟩ → (∀ j, A.add (i + j) = ⟨β b, off + j, none⟩) →
    ∃ w', (storeCells A (xs.map (·.den β)) i).run P w = .ok () w' ∧ Inv O w0 β (setAll M b off xs) w' ∧ ∀ r, r ≠ β b → w'.heap[r]? = w.heap[r]?
  | [], M, w, off, A, i, _, hI, _, _, _, _, _ => ⟨w, rfl, hI, fun _ _ => rfl⟩
  | x :: xs, M, w, off, A, i, cs0, hI, hb, hlen, hf, hA, hA2 => by
    simp only [List.all_cons, Bool.and_eq_true] at hf
    simp only [List.length_cons] at hlen
    have hc := hI.cell hb (off := off) (x := cs0[off]'(by omega)) (List.getElem?_eq_getElem _)
    have hz := hI.unfrozen hb off none
    have hI2 := hI.set hb off x
    have hb2 : (setC M b off x)[b]? = some (.mk e0 (cs0.set off x)) := by
      unfold setC
      rw [List.getElem?_modify, hb]
      simp [updB]
    obtain ⟨w', hr, hI', hkp⟩ := store_run (P := P) xs (setC M b off x) _ (off + 1) A (i + 1) _ hI2 hb2 (by simp; omega) hf.2 (by rw [hA2 1]) (fun j => by rw [show i + 1 + j = i + (1 + j) by omega, hA2, Nat.add_assoc])
    refine ⟨w', ?_, hI', fun r hne => by
      rw [hkp r hne]
      unfold World.setCell
      show (w.heap.modify _ _)[r]? = _
      rw [Array.getElem?_modify, if_neg (Ne.symm hne)]⟩
    simp only [List.map_cons, storeCells, Sem.run_bind]
    have hs : (store (A.add i) (x.den β)).run P w = .ok () (w.setCell ⟨β b, off, none⟩ (x.den β)) := by
      rw [hA]
      exact store_one hc hz hf.1
    rw [hs]
    exact hr
theorem setAll_length : ∀ (xs : List SC) (M : List Blk) (b off : Nat), (setAll M b off xs).length = M.length
  | [], _, _, _ => rfl
  | x :: xs, M, b, off => by simp only [setAll]; rw [setAll_length xs, setC_length]
theorem new_run {P : Program} (t : TypeId) (cs : Array Value) (w : World) : (newRow t cs).run P w = .ok ⟨w.heap.size, 0, none⟩ { w with heap := w.heap.push (.cells cs t) } := rfl
/-! ### lists that are owned -/
theorem chunks_at {sz : Nat} : ∀ (n : Nat) (cs : List SC) (j : Nat), j < n → (chunks sz n cs).getD j [] = (cs.drop (j * sz)).take sz
  | 0, _, _, h => absurd h (Nat.not_lt_zero _)
  | n + 1, cs, 0, _ => by simp [chunks]
  | n + 1, cs, j + 1, h => by
    have := chunks_at (sz := sz) n (cs.drop sz) j (by omega)
    simp only [chunks, List.getD_cons_succ, this, List.drop_drop]
    congr 2
    rw [Nat.add_mul, Nat.one_mul, Nat.add_comm]
theorem oneCell_of {x : SC} {β : Env} (h : x.ok = true) : (x.den β).oneCell' = true := by
  cases x with
  | val v => cases v <;> first | rfl | cases h
  | opq => cases h
  | lsub k sz lo n => simp only [SC.den]; unfold subV; split <;> rfl
  | _ => rfl
/-- The elements' cells, one behind the other. -/
structure Elems (sz n : Nat) (f : Nat → List SC) (xs : List Value) : Prop where
  len : xs.length = n * sz
  ok : elemsOk sz n f xs
theorem Elems.one {sz n : Nat} {f : Nat → List SC} {xs : List Value} (h : Elems sz n f xs) : ∀ u ∈ xs, u.oneCell' = true := fun u hu => by
  obtain ⟨i, hi⟩ := List.getElem?_of_mem hu
  have hlt : i < n * sz := by rw [← h.len]; exact get_lt hi
  have hs : 0 < sz := by
    rcases Nat.eq_zero_or_pos sz with e | e
    · rw [e, Nat.mul_zero] at hlt; omega
    · exact e
  have hj : i / sz < n := Nat.div_lt_of_lt_mul (by rw [Nat.mul_comm]; exact hlt)
  obtain ⟨h1, h2, h3, h4⟩ := h.ok (i / sz) hj
  have hm : i % sz < (f (i / sz)).length := by rw [h1]; exact Nat.mod_lt _ hs
  have := h4 (i % sz) _ (List.getElem?_eq_getElem hm)
  rw [Nat.mul_comm, Nat.div_add_mod] at this
  rw [hi] at this
  cases this
  exact oneCell_of (List.all_eq_true.1 h3 _ (List.getElem_mem hm))
theorem Elems.join {sz n m : Nat} {f g : Nat → List SC} {xs ys : List Value} (h : Elems sz n f xs) (h' : Elems sz m g ys) : Elems sz (n + m) (joinF n f g) (xs ++ ys) := by
  refine ⟨by rw [List.length_append, h.len, h'.len, Nat.add_mul], fun j hj => ?_⟩
  unfold joinF
  by_cases hjn : j < n
  · have : Nat.blt j n = true := by simpa using hjn
    rw [this]
    obtain ⟨h1, h2, h3, h4⟩ := h.ok j hjn
    refine ⟨h1, h2, h3, fun m c hc => ?_⟩
    have := h4 m c hc
    rw [List.getElem?_append_left (get_lt this)]; exact this
  · have : Nat.blt j n = false := by
      cases hb : Nat.blt j n with
      | false => rfl
      | true => exact absurd (by simpa using hb) hjn
    rw [this]
    obtain ⟨h1, h2, h3, h4⟩ := h'.ok (j - n) (by omega)
    refine ⟨h1, h2, h3, fun m c hc => ?_⟩
    have := h4 m c hc
    have e : j * sz + m = xs.length + ((j - n) * sz + m) := by
      rw [h.len, ← Nat.add_assoc, ← Nat.add_mul]; congr 2; omega
    rw [e, List.getElem?_append_right (by omega), Nat.add_sub_cancel_left]; exact this
theorem Elems.nil (sz : Nat) (f : Nat → List SC) : Elems sz 0 f [] := ⟨by simp, fun j hj => absurd hj (Nat.not_lt_zero j)⟩
theorem Elems.of {sz n : Nat} {f : Nat → List SC} (h : ∀ j, j < n → (f j).length = sz ∧ (f j).all (·.lt 0) = true ∧ (f j).all SC.ok = true) : ∃ xs, Elems sz n f xs := by
  induction n with
  | zero => exact ⟨[], Elems.nil sz f⟩
  | succ n ih =>
    obtain ⟨xs, hx⟩ := ih (fun j hj => h j (by omega))
    obtain ⟨h1, h2, h3⟩ := h n (by omega)
    have h' : Elems sz 1 (fun _ => f n) ((f n).map (·.den nob)) := ⟨by simp [h1], fun j hj => ⟨h1, h2, h3, fun m c hc => by
      have : j = 0 := by omega
      subst this
      rw [Nat.zero_mul, Nat.zero_add, List.getElem?_map, hc]; rfl⟩⟩
    refine ⟨_, (hx.join h').len, fun j hj => ?_⟩
    have := (hx.join h').ok j hj
    unfold joinF at this
    by_cases hjn : j < n
    · have hb : Nat.blt j n = true := by simpa using hjn
      rw [hb] at this; exact this
    · have hb : Nat.blt j n = false := by
        cases hb : Nat.blt j n with
        | false => rfl
        | true => exact absurd (by simpa using hb) hjn
      have e : j = n := by omega
      rw [hb] at this; subst e; exact this
theorem Elems.congr {sz n : Nat} {f g : Nat → List SC} {xs : List Value} (h : Elems sz n f xs) (e : ∀ j, j < n → f j = g j) : Elems sz n g xs := ⟨h.len, fun j hj => by rw [← e j hj]; exact h.ok j hj⟩
/-- An append: what it returns is a list that is owned, in the block of the one that it was, or in a new one. -/
theorem append_run {P : Program} (w : World) (base : Nat) (t ty e : TypeId) (i : TypeInfo) (z : Value) (ht : P.underlying t = some (.slice e)) (hi : P.info? e = some i) (hz : i.zero = some z) (hzs : z.cells.size = i.size)
    (hbz : 0 < i.bytes) (v x : Value) (n m : Nat) (xs news : List Value) (hown : w.ownsRow base e i.size v n xs) (hl : news.length = m * i.size) (h1 : ∀ u ∈ news, u.oneCell' = true)
    (hx : (x = .slice none 0 0 ∧ m = 0) ∨ (∃ c, x = .slice none 0 c ∧ m = 0) ∨ ∃ a c, x = .slice (some a) m c ∧ ∀ j u, news[j]? = some u → w.cell? (a.add j) = some u)
    (hroom : ((n + m) + (n + m) / 4 + 192) * i.bytes ≤ 281474976710656) (hbase : base ≤ w.heap.size) :
    ∃ v' w', (Builtin.append_ #[t, t] ty #[v, x]).run P w = .ok v' w' ∧ w'.ownsRow base e i.size v' (n + m) (xs ++ news) ∧ w.grownBy w' v.ownBlock ∧ (v'.ownBlock = v.ownBlock ∨ v'.ownBlock = some w.heap.size) := by
  have hle : n + m ≤ maxLen := by
    have h2 : (n + m) + (n + m) / 4 + 192 ≤ ((n + m) + (n + m) / 4 + 192) * i.bytes := Nat.le_mul_of_pos_right _ hbz
    have h3 : maxLen = 9223372036854775807 := rfl
    omega
  have hsmall : n + m ≤ 9223372036854775807 := hle
  have hlen : (xs ++ news).length = (n + m) * i.size := by rw [List.length_append, hown.1, hl, Nat.add_mul]
  by_cases hm : m = 0
  · subst hm
    have hn : news = [] := List.eq_nil_of_length_eq_zero (by simpa using hl)
    subst hn
    refine ⟨v, w, ?_, by simpa using hown, ⟨rfl, rfl, rfl, Nat.le_refl _, fun _ _ _ => rfl⟩, .inl rfl⟩
    have hx2 : (Builtin.lenOf x).run P w = .ok 0 w ∧ (Builtin.firstCells i.size 0 x).run P w = .ok #[] w := by
      rcases hx with ⟨rfl, _⟩ | ⟨c, rfl, _⟩ | ⟨a, c, rfl, _⟩
      · exact ⟨rfl, by simp [Builtin.firstCells]⟩
      · exact ⟨rfl, by simp [Builtin.firstCells]⟩
      · exact ⟨rfl, by simp [Builtin.firstCells, loadCells, loadCellsFrom]⟩
    rcases hown.2 with ⟨rfl, rfl⟩ | ⟨g, cap, cur, rfl, _, _, hnc, _⟩
    · simp [Builtin.append_, run_underlying ht, sizeOf, typeInfo, hi, hx2.1, hx2.2]
    · simp [Builtin.append_, run_underlying ht, sizeOf, typeInfo, hi, hx2.1, hx2.2, hnc, storeCells]
  · obtain ⟨a, c, rfl, hnews⟩ : ∃ a c, x = .slice (some a) m c ∧ ∀ j u, news[j]? = some u → w.cell? (a.add j) = some u := by
      rcases hx with ⟨_, h⟩ | ⟨_, _, h⟩ | h
      · exact absurd h hm
      · exact absurd h hm
      · exact h
    have grown : ∀ (old : Nat), old < n + m → ∀ (row : Option Nat),
        (w.drew.alloc (.cells (xs.toArray ++ news.toArray ++ Builtin.zeroCells z.cells (grownCap w (n + m) old e - (n + m))) e)).ownsRow base e i.size
          (.slice (some ⟨w.heap.size, 0, none⟩) (n + m) (grownCap w (n + m) old e)) (n + m) (xs ++ news) ∧
        w.grownBy (w.drew.alloc (.cells (xs.toArray ++ news.toArray ++ Builtin.zeroCells z.cells (grownCap w (n + m) old e - (n + m))) e)) row := by
      intro old ho row
      have hge := grownCap_ge w (n + m) old e
      have hcm : grownCap w (n + m) old e ≤ maxLen := grownCap_le_maxLen w (n + m) old e hle
      refine ⟨⟨hlen, .inr ⟨w.heap.size, _, _, rfl, hbase, heap_alloc_new w.drew _, hge, hcm, ?_, ?_⟩⟩, ⟨rfl, rfl, rfl, by simp, (World.grownBy_alloc w.drew _ row).block⟩⟩
      · simp only [Array.size_append, List.size_toArray, size_zeroCells, hzs, hown.1, hl, ← Nat.add_mul]
        congr 1
        omega
      · simp only [Array.toList_append, List.append_assoc]
        rw [← List.append_assoc, ← hlen]
        exact List.take_left
    have next : ∀ old, old < n + m → Builtin.nextslicecap (n + m) old * i.bytes ≤ 281474976710656 := fun old ho => by
      refine Nat.le_trans (Nat.mul_le_mul_right _ ?_) hroom
      unfold Builtin.nextslicecap
      split
      · omega
      · split
        · omega
        · rw [growBy_four]
          repeat' split
          all_goals omega
    rcases hown.2 with ⟨rfl, rfl⟩ | ⟨g, cap, cur, rfl, hbg, hg, hnc, hcm, hcs, htake⟩
    · have hxs : xs = [] := List.eq_nil_of_length_eq_zero (by simpa using hown.1)
      subst hxs
      have hr := run_append_nil (P := P) w t ty e i z ht hi hz a m c news hl hnews (by omega) (by omega) (by have := next 0 (by omega); rw [nextslicecap_zero (by omega)] at this; simpa using this)
      have hgr := grown 0 (by omega) (Value.ownBlock (.slice none 0 0))
      simp only [Nat.zero_add, List.nil_append, Array.empty_append] at hgr ⊢
      exact ⟨_, _, hr, hgr.1, hgr.2, .inr rfl⟩
    · by_cases hrm : n + m ≤ cap
      · have hfit : n * i.size + news.length ≤ cur.size := by rw [hl, hcs, ← Nat.add_mul]; exact Nat.mul_le_mul_right _ hrm
        have hr := run_append_room (P := P) w t ty e i ht hi g n cap cur hg a m c news hl hnews h1 hrm hfit
        refine ⟨_, _, hr, ⟨hlen, .inr ⟨g, cap, _, rfl, hbg, setRow_heap w g cur _ e _ hg, hrm, hcm, ?_, ?_⟩⟩, ⟨rfl, rfl, rfl, by simp, fun k _ hk => setRow_other w g k _ (fun e => hk (by simp [Value.ownBlock, e]))⟩, .inl rfl⟩
        · simp only [List.size_toArray, List.length_append, List.length_take, List.length_drop, Array.length_toList]
          omega
        · rw [htake, ← hlen]
          exact List.take_left
      · have holds : ∀ j u, xs[j]? = some u → w.cell? ((⟨g, 0, none⟩ : Addr).add j) = some u := hown.cells (g := g) rfl
        have hr := run_append_grow (P := P) w t ty e i z ht hi hz ⟨g, 0, none⟩ n cap xs hown.1 holds a m c news hl hnews (by omega) (by omega) (next cap (by omega))
        have hgr := grown cap (by omega) (Value.ownBlock (.slice (some ⟨g, 0, none⟩) n cap))
        exact ⟨_, _, hr, hgr.1, hgr.2, .inr rfl⟩
theorem envAp_ext (β : Env) (n : Nat) (b : Nat) (v : Option Addr × Nat × Nat) : Ext n β ⟨fun i => if i = n then b else β i, fun i => if i = n then v else β.v i⟩ := fun i hi => by
  have h : ¬ i = n := by omega
  constructor
  · show (if i = n then b else β i) = β i; rw [if_neg h]
  · show (if i = n then v else β.v i) = β.v i; rw [if_neg h]
theorem elemsOk_chunks {base : Env} {sz n : Nat} {cs : List SC} (hl : cs.length = n * sz) (h0 : cs.all (·.lt 0) = true) (h1 : cs.all SC.ok = true) : Elems sz n (fun j => (chunks sz n cs).getD j []) (cs.map (·.den base)) := by
  refine ⟨by rw [List.length_map, hl], fun j hj => ?_⟩
  have he : (j + 1) * sz ≤ n * sz := Nat.mul_le_mul_right _ hj
  rw [Nat.add_mul, Nat.one_mul] at he
  simp only [chunks_at n cs j hj]
  have hall : ∀ {p : SC → Bool}, cs.all p = true → ((cs.drop (j * sz)).take sz).all p = true := fun hp => by
    rw [List.all_eq_true] at hp ⊢
    exact fun x hx => hp x (List.mem_of_mem_drop (List.mem_of_mem_take hx))
  refine ⟨by rw [List.length_take, List.length_drop]; omega, hall h0, hall h1, fun m c hc => ?_⟩
  rw [List.getElem?_take] at hc
  split at hc
  · rw [List.getElem?_drop] at hc
    rw [List.getElem?_map, hc]
    have : c.den base = c.den nob := (SC.den_nob (List.all_eq_true.1 h0 c (List.mem_of_getElem? hc)) base).symm
    simp [this]
  · cases hc
/-- A new list in a new block. -/
theorem Inv.newL {O : Nat → Prop} {w0 w : World} {β : Env} {M : List Blk} (h : Inv O w0 β M w) (hM : memLt M.length M = true) (e : TypeId) (sz n cap : Nat) (f : Nat → List SC) (cur : Array Value) (xs : List Value)
    (hn : n ≤ cap) (hc : cap ≤ maxLen) (hs : cur.size = cap * sz) (hx : cur.toList.take (n * sz) = xs) (he : elemsOk sz n f xs) :
    ∃ β', Ext M.length β β' ∧ Inv O w0 β' (M ++ [.lst e sz n f]) { w with heap := w.heap.push (.cells cur e) } ∧ β'.sv M.length = .slice (some ⟨w.heap.size, 0, none⟩) n cap := by
  have hβ := envAp_ext β M.length w.heap.size (some ⟨w.heap.size, 0, none⟩, n, cap)
  generalize hβ' : (⟨fun i => if i = M.length then w.heap.size else β i, fun i => if i = M.length then (some ⟨w.heap.size, 0, none⟩, n, cap) else β.v i⟩ : Env) = β' at hβ
  have hv' : β'.v M.length = (some ⟨w.heap.size, 0, none⟩, n, cap) := by rw [← hβ']; show (if M.length = M.length then _ else _) = _; rw [if_pos rfl]
  have hb' : β' M.length = w.heap.size := by rw [← hβ']; show (if M.length = M.length then _ else _) = _; rw [if_pos rfl]
  have hp : ∀ r, r < w.heap.size → (w.heap.push (.cells cur e))[r]? = w.heap[r]? := fun r hr => by rw [Array.getElem?_push, if_neg (by omega)]
  refine ⟨β', hβ, h.grow hM _ hβ ⟨h.fr.os, h.fr.tape, h.fr.output, ?_, fun r hr ho => ?_⟩ (fun i a hi hr => hp _ (h.lt hi hr)) (fun i a hi hr _ => by rw [hb']; have := h.lt hi hr; omega) (fun _ _ e2 => by cases e2) (fun e2 sz2 n2 f2 he2 => ?_) (fun _ => by rw [hb']; exact .inl h.fr.size) (h.fzA hβ _ (by show w.heap.size ≤ (w.heap.push _).size; rw [Array.size_push]; omega) hp (fun _ => by rw [hb']; exact Nat.le_refl _)) (fun _ e2 => by cases e2) (fun _ e2 => by cases e2), by unfold Env.sv; rw [hv']⟩
  · show w0.heap.size ≤ (w.heap.push _).size
    rw [Array.size_push]; have := h.fr.size; omega
  · have := h.fr.size
    rw [← h.fr.block r hr ho]; exact hp r (by omega)
  · cases he2
    refine ⟨⟨xs, ⟨?_, .inr ⟨w.heap.size, cap, cur, by unfold Env.sv; rw [hv'], Nat.zero_le _, ?_, hn, hc, hs, hx⟩⟩, he⟩, fun a ha => ?_⟩
    · rw [← hx, List.length_take, Array.length_toList, hs]
      exact Nat.min_eq_left (Nat.mul_le_mul_right _ hn)
    · show (w.heap.push _)[w.heap.size]? = _
      rw [Array.getElem?_push, if_pos rfl]
    · rw [hv'] at ha
      rw [hb']
      cases ha; rfl
theorem spl_length {α : Type} : ∀ (cs : List α) (off : Nat) (xs : List α), off + xs.length ≤ cs.length → (spl cs off xs).length = cs.length
  | [], 0, [], _ => rfl
  | [], 0, _ :: _, h => by simp at h
  | [], n + 1, xs, h => by simp at h
  | c :: cs, 0, [], _ => rfl
  | c :: cs, 0, x :: xs, h => by
    have := spl_length cs 0 xs (by simp at h ⊢; omega)
    have e : spl cs 0 xs = over cs xs := by cases cs <;> cases xs <;> rfl
    rw [e] at this
    show (x :: over cs xs).length = _
    simp [this]
  | c :: cs, n + 1, xs, h => by
    have := spl_length cs n xs (by simp at h; omega)
    show (c :: spl cs n xs).length = _
    simp [this]
theorem spl_at {α : Type} : ∀ (cs : List α) (off : Nat) (xs : List α), off + xs.length ≤ cs.length → ∀ m, (spl cs off xs)[m]? = if m < off then cs[m]? else if m < off + xs.length then xs[m - off]? else cs[m]?
  | [], 0, [], _, m => by simp [spl, over]
  | [], 0, _ :: _, h, _ => by simp at h
  | [], n + 1, xs, h, _ => by simp at h
  | c :: cs, 0, [], _, m => by simp [spl, over]
  | c :: cs, 0, x :: xs, h, m => by
    have ih := spl_at cs 0 xs (by simp at h ⊢; omega)
    have e : spl cs 0 xs = over cs xs := by cases cs <;> cases xs <;> rfl
    rw [e] at ih
    show (x :: over cs xs)[m]? = _
    cases m with
    | zero => simp
    | succ m =>
      have := ih m
      simp only [Nat.not_lt_zero, if_false, Nat.zero_add, Nat.sub_zero, List.getElem?_cons_succ, List.length_cons, Nat.add_lt_add_iff_right] at this ⊢
      exact this
  | c :: cs, n + 1, xs, h, m => by
    have ih := spl_at cs n xs (by simp at h; omega)
    show (c :: spl cs n xs)[m]? = _
    cases m with
    | zero => simp
    | succ m =>
      have := ih m
      have e1 : (m + 1 < n + 1 + xs.length) = (m < n + xs.length) := by apply propext; omega
      simp only [List.getElem?_cons_succ, Nat.add_lt_add_iff_right, this, e1]
      rw [show m + 1 - (n + 1) = m - n by omega]
theorem effOp_sound {P : Program} {O : Nat → Prop} {w0 : World} {M : List Blk} {ts : List SX} {o : Oper} {k : SX → List Blk → Prop} (h : effOp P M ts o k) : ∃ x M', k x M' ∧ GoodE P O w0 M ts o x M' := by
  unfold effOp at h
  split at h
  · rename_i e ho
    split at h
    · rename_i i hi
      split at h
      · rename_i z hz
        cases hg : (allLt M.length M ts && ((cellsX (constX z)).all SC.flat && !isTup (constX z))) with
        | false => rw [hg] at h; exact h.elim
        | true =>
          rw [hg] at h
          simp only [Bool.and_eq_true, allLt, Bool.not_eq_true'] at hg
          obtain ⟨⟨hm, hts⟩, hfl, htu⟩ := hg
          have hzc : (cellsX (constX z)).all (·.lt M.length) = true := constX_lt z M.length
          refine ⟨_, _, h, fun β w df hI => ?_⟩
          have hp := hI.push e _ hm hzc
          have hx := put1_ext β M.length w.heap.size
          refine ⟨_, _, _, ?_, .inl rfl, hp, hx, fr_ext hx hts, by simp, keeps_push _ _ _ _ _ _⟩
          simp only [execOp, ho, Instr.alloc, Sem.run_bind, zeroValue, typeInfo, program, Sem.run, hi, Sem.run_pure, Result.andThen_ok, hz, newVar, new_run]
          have e1 : (SX.one (.ptr M.length 0)).den (put1 β M.length w.heap.size) = .pointer (some ⟨w.heap.size, 0, none⟩) := by show Value.pointer (some ⟨put1 β M.length w.heap.size M.length, 0, none⟩) = _; rw [put1_at]
          rw [e1, ← cells_den htu hfl β, constX_den]
      · exact h.elim
    · exact h.elim
  · rename_i e x ho
    cases hg : (allLt M.length M ts && ((cellsX (rd ts x)).all SC.flat && ((cellsX (rd ts x)).all (·.lt M.length) && !isTup (rd ts x)))) with
    | false => rw [hg] at h; exact h.elim
    | true =>
      rw [hg] at h
      simp only [Bool.and_eq_true, allLt, Bool.not_eq_true'] at hg
      obtain ⟨⟨hm, hts⟩, hfl, hlt, htu⟩ := hg
      refine ⟨_, _, h, fun β w df hI => ?_⟩
      have hp := hI.push e _ hm hlt
      have hx := put1_ext β M.length w.heap.size
      refine ⟨_, _, _, ?_, .inl rfl, hp, hx, fr_ext hx hts, by simp, keeps_push _ _ _ _ _ _⟩
      simp only [execOp, ho, Instr.box, rd_den, Sem.run_bind, newVar, new_run, Result.andThen_ok, Sem.run_pure]
      have e1 : (SX.one (.ptr M.length 0)).den (put1 β M.length w.heap.size) = .pointer (some ⟨w.heap.size, 0, none⟩) := by show Value.pointer (some ⟨put1 β M.length w.heap.size M.length, 0, none⟩) = _; rw [put1_at]
      rw [e1, ← cells_den htu hfl β]
  · rename_i t a x ho
    split at h
    · rename_i b off ha
      split at h
      · rename_i e0 cs0 i hb hi
        cases hg : (Nat.beq (cellsX (rd ts x)).length i.size && ((cellsX (rd ts x)).all SC.flat && (!isTup (rd ts x) && Nat.ble (off + i.size) cs0.length))) with
        | false => rw [hg] at h; exact h.elim
        | true =>
          rw [hg] at h
          simp only [Bool.and_eq_true, Bool.not_eq_true'] at hg
          obtain ⟨hsz, hfl, htu, hle⟩ := hg
          have hsz2 := Nat.eq_of_beq_eq_true hsz
          have hle2 := Nat.le_of_ble_eq_true hle
          rw [← setAll_B] at h
          refine ⟨_, _, h, fun β w df hI => ?_⟩
          obtain ⟨w', hr, hI', hkeep⟩ := store_run (P := P) (cellsX (rd ts x)) M w off ⟨β b, off, none⟩ 0 cs0 hI hb (by omega) hfl (add_plain' _ _ _) (fun j => by rw [add_plain']; congr 1; omega)
          refine ⟨β, w', .skip, ?_, .inr ⟨rfl, rfl⟩, hI', Ext.refl _ _, rfl, Nat.le_of_eq (setAll_length _ _ _ _).symm, fun r hrl hne => hkeep r (hne b _ (by unfold tgt; simp only [ho, ha]) hb trivial)⟩
          simp only [execOp, ho, rd_den, ha, Instr.storeAt, Instr.sureAddr, den_ptr, Sem.run_bind, Sem.run_pure, Result.andThen_ok, storeVar, run_sizeOf' hi]
          rw [cells_den htu hfl]
          simp only [List.size_toArray, List.length_map, hsz2, ne_eq, not_true_eq_false, if_false, Result.andThen_ok, hr]
      · exact h.elim
    · rename_i b sz j off ha
      split at h
      · rename_i e0 sz' n f i hb hi
        cases hg : (Nat.beq sz' sz && (Nat.beq (cellsX (rd ts x)).length i.size && ((cellsX (rd ts x)).all SC.flat && ((cellsX (rd ts x)).all (·.lt 0) && (!isTup (rd ts x) && Nat.ble (off + i.size) (f j).length))))) with
        | false => rw [hg] at h; exact h.elim
        | true =>
          rw [hg] at h
          simp only [Bool.and_eq_true, Bool.not_eq_true'] at hg
          obtain ⟨g1, g2, g3, g4, g5, g6⟩ := hg
          obtain rfl := Nat.eq_of_beq_eq_true g1
          have g2 := Nat.eq_of_beq_eq_true g2
          have g6 := Nat.le_of_ble_eq_true g6
          obtain ⟨⟨_, hj⟩, hk⟩ := h
          have hj : j < n := by omega
          refine ⟨_, _, hk, fun β w df hI => ?_⟩
          have hL := hI.ls b e0 sz' n f hb
          rcases hL.facts with ⟨_, e2⟩ | ⟨cap, cur, e1, _, h2, h3, h4, h5, he⟩
          · omega
          have hlj := (he j hj).1
          generalize hxs : (cellsX (rd ts x)).map (·.den β) = vs
          have hvl : vs.length = i.size := by rw [← hxs]; simp [g2]
          have hcap : (j + 1) * sz' ≤ cap * sz' := Nat.mul_le_mul_right _ (by omega)
          rw [Nat.add_mul, Nat.one_mul] at hcap
          have hone : ∀ v ∈ vs, v.oneCell' = true := fun v hv => by
            rw [← hxs] at hv
            obtain ⟨c, hc, rfl⟩ := List.mem_map.1 hv
            exact oneCell_of (List.all_eq_true.1 g3 c hc)
          have hst := run_storeCells_at P (β b) (j * sz' + off) e0 vs 0 cur w h2 (by omega) hone
          simp only [Nat.add_zero] at hst
          generalize hcur : (cur.toList.take (j * sz' + off) ++ vs ++ cur.toList.drop (j * sz' + off + vs.length)).toArray = cur2 at hst
          have hsz2 : cur2.size = cur.size := by
            rw [← hcur]
            simp only [List.size_toArray, List.length_append, List.length_take, List.length_drop, Array.length_toList]
            omega
          have hlc : cur.toList.length = cap * sz' := by rw [Array.length_toList]; exact h5
          have hat : ∀ q, cur2.toList[q]? = if q < j * sz' + off then cur.toList[q]? else if q < j * sz' + off + vs.length then vs[q - (j * sz' + off)]? else cur.toList[q]? := fun q => by
            rw [← hcur]
            simp only []
            by_cases c1 : q < j * sz' + off
            · rw [if_pos c1, List.append_assoc, List.getElem?_append_left (by rw [List.length_take]; omega), List.getElem?_take, if_pos c1]
            · rw [if_neg c1]
              by_cases c2 : q < j * sz' + off + vs.length
              · rw [if_pos c2, List.append_assoc, List.getElem?_append_right (by rw [List.length_take]; omega), List.length_take, Nat.min_eq_left (by omega), List.getElem?_append_left (by omega)]
              · rw [if_neg c2, List.getElem?_append_right (by rw [List.length_append, List.length_take]; omega), List.length_append, List.length_take, Nat.min_eq_left (by omega), List.getElem?_drop]
                congr 1; omega
          have hother : ∀ r, r ≠ β b → (w.setRow (β b) cur2).heap[r]? = w.heap[r]? := fun r hr => setRow_other w (β b) r cur2 hr
          have hreal : (β.v b).1.isSome = true := by rw [e1]; rfl
          have hset : ∀ {i2 : Nat} {a : Blk}, (M.set b (.lst e0 sz' n (fun j' => bif Nat.beq j' j then spl (f j) off (cellsX (rd ts x)) else f j')))[i2]? = some a →
              (i2 = b ∧ a = .lst e0 sz' n (fun j' => bif Nat.beq j' j then spl (f j) off (cellsX (rd ts x)) else f j')) ∨ (i2 ≠ b ∧ M[i2]? = some a) := fun {i2 a} hi2 => by
            by_cases hbi : b = i2
            · subst hbi
              rw [List.getElem?_set_self (get_lt hb)] at hi2
              cases hi2; exact .inl ⟨rfl, rfl⟩
            · rw [List.getElem?_set_ne hbi] at hi2; exact .inr ⟨fun e => hbi e.symm, hi2⟩
          have hne : ∀ {i2 : Nat} {a : Blk}, i2 ≠ b → M[i2]? = some a → a.real β i2 → β i2 ≠ β b := fun hn hm hr he2 => hn (hI.inj _ b _ _ hm hb hr hreal he2)
          have hI2 : Inv O w0 β (M.set b (.lst e0 sz' n (fun j' => bif Nat.beq j' j then spl (f j) off (cellsX (rd ts x)) else f j'))) (w.setRow (β b) cur2) := by
            refine ⟨fun i2 e cs hi2 => ?_, fun i2 e sz n2 f2 hi2 => ?_, fun i2 j2 a c hi2 hj2 hr hs he2 => ?_, ⟨hI.fr.os, hI.fr.tape, hI.fr.output, ?_, fun r hr ho => ?_⟩, fun i2 a hi2 hr => ?_, fun i2 Q hi2 => ?_, fun i2 Q hi2 => ?_⟩
            rotate_right
            · rcases hset hi2 with ⟨_, e3⟩ | ⟨hn, hm⟩
              · cases e3
              · refine (hI.fz i2 Q hm).step (Nat.le_refl _) (by show w.heap.size ≤ (w.heap.modify _ _).size; rw [Array.size_modify]; exact Nat.le_refl _) fun r _ _ h3 => ⟨hother r fun e => h3 b _ hb hreal e.symm, fun j2 a hj2 hr => ?_⟩
                rcases hset hj2 with ⟨rfl, rfl⟩ | ⟨_, hm2⟩
                · exact h3 j2 _ hb hreal
                · exact h3 j2 a hm2 hr
            rotate_right
            · rcases hset hi2 with ⟨_, e3⟩ | ⟨hn, hm⟩
              · cases e3
              · exact (hI.ab i2 Q hm).kept (hother _ (hne hn hm trivial))
            · rcases hset hi2 with ⟨_, e3⟩ | ⟨hn, hm⟩
              · cases e3
              · rw [hother _ (hne hn hm trivial)]; exact hI.at_ i2 e cs hm
            · rcases hset hi2 with ⟨rfl, e3⟩ | ⟨hn, hm⟩
              · cases e3
                refine ⟨⟨cur2.toList.take (n * sz'), ⟨?_, .inr ⟨β i2, cap, cur2, by unfold Env.sv; rw [e1], Nat.zero_le _, setRow_heap w (β i2) cur cur2 e0 (0, 0) h2, h3, h4, by rw [hsz2, h5], rfl⟩⟩, fun j2 hj2 => ?_⟩, fun a ha => by rw [e1] at ha; cases ha; rfl⟩
                · rw [List.length_take, Array.length_toList, hsz2, h5]
                  exact Nat.min_eq_left (Nat.mul_le_mul_right _ h3)
                · obtain ⟨q1, q2, q3, q4⟩ := he j2 hj2
                  have hj2c : (j2 + 1) * sz' ≤ n * sz' := Nat.mul_le_mul_right _ hj2
                  rw [Nat.add_mul, Nat.one_mul] at hj2c
                  by_cases hjj : j2 = j
                  · subst hjj
                    simp only [Nat.beq_refl, cond_true]
                    have hsl : off + (cellsX (rd ts x)).length ≤ (f j2).length := by rw [g2]; exact g6
                    have hall : ∀ {p : SC → Bool}, (f j2).all p = true → (cellsX (rd ts x)).all p = true → (spl (f j2) off (cellsX (rd ts x))).all p = true := fun hp1 hp2 => List.all_eq_true.2 fun c hc => by
                      obtain ⟨q, hq⟩ := List.getElem?_of_mem hc
                      rw [spl_at _ _ _ hsl] at hq
                      split at hq
                      · exact List.all_eq_true.1 hp1 c (List.mem_of_getElem? hq)
                      · split at hq
                        · exact List.all_eq_true.1 hp2 c (List.mem_of_getElem? hq)
                        · exact List.all_eq_true.1 hp1 c (List.mem_of_getElem? hq)
                    refine ⟨by rw [spl_length _ _ _ hsl, q1], hall q2 g4, hall q3 g3, fun m c hc => ?_⟩
                    have hm : m < sz' := by rw [← q1, ← spl_length _ _ _ hsl]; exact get_lt hc
                    rw [spl_at _ _ _ hsl] at hc
                    rw [List.getElem?_take, if_pos (by omega), hat]
                    split at hc
                    · rename_i c1
                      rw [if_pos (by omega)]
                      have := q4 m c hc
                      rw [List.getElem?_take, if_pos (by omega)] at this
                      exact this
                    · rename_i c1
                      split at hc
                      · rename_i c2
                        rw [if_neg (by omega), if_pos (by omega), ← hxs, List.getElem?_map]
                        rw [show j2 * sz' + m - (j2 * sz' + off) = m - off by omega, hc]
                        have : c.den β = c.den nob := (SC.den_nob (List.all_eq_true.1 g4 c (List.mem_of_getElem? hc)) β).symm
                        simp [this]
                      · rename_i c2
                        rw [if_neg (by omega), if_neg (by omega)]
                        have := q4 m c hc
                        rw [List.getElem?_take, if_pos (by omega)] at this
                        exact this
                  · have hb0 : Nat.beq j2 j = false := by
                      cases hb0 : Nat.beq j2 j with
                      | false => rfl
                      | true => exact absurd (Nat.eq_of_beq_eq_true hb0) hjj
                    simp only [hb0, cond_false]
                    refine ⟨q1, q2, q3, fun m c hc => ?_⟩
                    have hm : m < sz' := by rw [← q1]; exact get_lt hc
                    have := q4 m c hc
                    rw [List.getElem?_take, if_pos (by omega)] at this ⊢
                    rw [hat]
                    rcases Nat.lt_or_gt_of_ne hjj with hlt | hgt
                    · have h6 : (j2 + 1) * sz' ≤ j * sz' := Nat.mul_le_mul_right _ hlt
                      rw [Nat.add_mul, Nat.one_mul] at h6
                      rw [if_pos (by omega)]; exact this
                    · have h6 : (j + 1) * sz' ≤ j2 * sz' := Nat.mul_le_mul_right _ hgt
                      rw [Nat.add_mul, Nat.one_mul] at h6
                      rw [if_neg (by omega), if_neg (by omega)]; exact this
              · exact (hI.ls i2 e sz n2 f2 hm).kept rfl rfl (fun hr => hother _ (hne hn hm hr))
            · have hget : ∀ {i2 : Nat} {a : Blk}, (M.set b (.lst e0 sz' n (fun j' => bif Nat.beq j' j then spl (f j) off (cellsX (rd ts x)) else f j')))[i2]? = some a → a.real β i2 → ∃ a0, M[i2]? = some a0 ∧ a0.real β i2 := fun {i2 a} hi2 hr => by
                rcases hset hi2 with ⟨rfl, rfl⟩ | ⟨_, hm⟩
                · exact ⟨_, hb, hreal⟩
                · exact ⟨a, hm, hr⟩
              obtain ⟨a0, ha0, hr0⟩ := hget hi2 hr
              obtain ⟨c0, hc0, hs0⟩ := hget hj2 hs
              exact hI.inj i2 j2 a0 c0 ha0 hc0 hr0 hs0 he2
            · show w0.heap.size ≤ (w.heap.modify _ _).size
              rw [Array.size_modify]; exact hI.fr.size
            · rw [hother r (fun he2 => ?_)]
              · exact hI.fr.block r hr ho
              · rcases hI.low b _ hb hreal with h6 | h6
                · omega
                · rw [he2] at ho; exact ho h6
            · rcases hset hi2 with ⟨rfl, rfl⟩ | ⟨_, hm⟩
              · exact hI.low i2 _ hb hreal
              · exact hI.low i2 a hm hr
          refine ⟨β, _, .skip, ?_, .inr ⟨rfl, rfl⟩, hI2, Ext.refl _ _, rfl, by simp, fun r hrl hne => hother r (hne b _ (by unfold tgt; simp only [ho, ha]) hb hreal)⟩
          have e9 : (SX.v (.c (.ep b sz' j off))).den β = .pointer (some ⟨β b, j * sz' + off, none⟩) := by
            show elemV (β.v b) sz' j off = _
            unfold elemV
            rw [e1]
            simp only [Option.getD_some, add_plain0]
          simp only [execOp, ho, rd_den, ha, e9, Instr.storeAt, Instr.sureAddr, Sem.run_bind, Sem.run_pure, Result.andThen_ok, storeVar, run_sizeOf' hi]
          rw [cells_den g5 g3, hxs]
          simp only [List.size_toArray, hvl, ne_eq, not_true_eq_false, if_false, Result.andThen_ok, hst]
      · exact h.elim
    · exact h.elim
  · rename_i t ps ho
    split at h
    · rename_i e ht
      split at h
      · rename_i ei hi
        cases hg : (allLt M.length M ts && ps.toList.isEmpty) with
        | false => rw [hg] at h; exact h.elim
        | true =>
          rw [hg] at h
          simp only [Bool.and_eq_true, allLt] at hg
          obtain ⟨⟨hm, hts⟩, hps⟩ := hg
          refine ⟨_, _, h, fun β w df hI => ?_⟩
          obtain ⟨β', hx, hI2, hsv⟩ := hI.newL hm e ei.size 0 0 (fun _ => []) #[] [] (Nat.le_refl _) (by decide) (by simp) (by simp) (fun j hj => absurd hj (Nat.not_lt_zero j))
          refine ⟨β', _, _, ?_, .inl rfl, hI2, hx, fr_ext hx hts, by simp, keeps_push _ _ _ _ _ _⟩
          have hp : ps = #[] := by cases ps; simp_all
          subst hp
          have e1 : (SX.one (.lst M.length)).den β' = .slice (some ⟨w.heap.size, 0, none⟩) 0 0 := hsv
          simp only [execOp, ho, Instr.buildSlice, Sem.run_bind, run_underlying ht, Result.andThen_ok, run_sizeOf' hi, e1]
          have e0 : (Array.range 0).map (fun _ : Nat => (default : Value)) = #[] := Array.eq_empty_of_size_eq_zero (by simp)
          simp [Instr.fill, new_run]
          rw [e0]
      · exact h.elim
    · exact h.elim
  · rename_i t len ps hlen ho
    split at h
    · rename_i e ht
      split at h
      · rename_i ei hi
        split at h
        · rename_i z hz
          cases hg : (allLt M.length M ts && ((cellsX (constX z)).all SC.flat && (!isTup (constX z) && (Nat.beq (cellsX (constX z)).length ei.size && (Nat.ble (len * ei.size) 16777216 && Nat.blt 0 (len * ei.size)))))) with
          | false => rw [hg] at h; exact h.elim
          | true =>
            rw [hg] at h
            simp only [Bool.and_eq_true, allLt, Bool.not_eq_true'] at hg
            obtain ⟨⟨hm, hts⟩, hfl, htu, hsz, hle, hpos⟩ := hg
            have hsz := Nat.eq_of_beq_eq_true hsz
            have hle := Nat.le_of_ble_eq_true hle
            have hpos : 0 < len * ei.size := by simpa using hpos
            have hs0 : 0 < ei.size := Nat.pos_of_mul_pos_left hpos
            simp only [cond_true] at h
            split at h
            · rename_i r hr
              cases hl : r.all (·.lt M.length) with
              | false => rw [hl] at h; exact h.elim
              | true =>
                rw [hl] at h
                refine ⟨_, _, h, fun β w df hI => ?_⟩
                have hp := hI.push e r hm hl
                have hx := put1_ext β M.length w.heap.size
                refine ⟨_, _, _, ?_, .inl rfl, hp, hx, fr_ext hx hts, by simp, keeps_push _ _ _ _ _ _⟩
                have hzc : z.cells = ((cellsX (constX z)).map (·.den β)).toArray := by rw [← cells_den htu hfl β, constX_den]
                have hzs : z.cells.size = ei.size := by rw [hzc]; simp [hsz]
                have hf := fillS_den β _ _ r hr
                have hz2 := zeros_run z.cells len ei.size hzs
                have hz3 : (((List.replicate len (cellsX (constX z))).flatten).map (·.den β)).toArray = ((List.replicate len z.cells.toList).flatten).toArray := by
                  rw [List.map_flatten, List.map_replicate, hzc]
                rw [hz3, ← hz2] at hf
                have hq : (ps.map fun p => (p.1, Act.eval ⟨fr β ts, df⟩ p.2)).toList = (ps.toList.map fun p => (p.1, rd ts p.2)).map fun p => (p.1, p.2.den β) := by
                  rw [Array.toList_map, List.map_map]
                  refine List.map_congr_left fun p _ => ?_
                  show (p.1, Act.eval ⟨fr β ts, df⟩ p.2) = (p.1, (rd ts p.2).den β)
                  rw [rd_den]
                rw [← hq] at hf
                have e1 : (SX.one (.sl M.length 0 len len)).den (put1 β M.length w.heap.size) = .slice (some ⟨w.heap.size, 0, none⟩) len len := by show Value.slice (some ⟨put1 β M.length w.heap.size M.length, 0, none⟩) len len = _; rw [put1_at]
                simp only [execOp, ho, Instr.buildSlice, Sem.run_bind, run_underlying ht, Result.andThen_ok, run_sizeOf' hi, if_neg (show ¬ len * ei.size > 2 ^ 24 by omega), if_neg (show ¬ len * ei.size = 0 by omega), Sem.run_pure, zeroValue, typeInfo, program, Sem.run, hi, hz]
                rw [e1]
                have hfin := hf
                simp only [hzs] at hfin ⊢
                rw [hfin]
                rfl
            · exact h.elim
        · exact h.elim
      · exact h.elim
    · exact h.elim
  · rename_i t l c ho
    split at h
    · rename_i e kl n kc n2 ht hl hc
      split at h
      · rename_i ei hi
        split at h
        · rename_i z hz
          cases hcl : isConstO l with
        | true =>
          rw [hcl] at h
          simp only [cond_true] at h
          cases hg : (allLt M.length M ts && ((cellsX (constX z)).all SC.flat && (!isTup (constX z) && (Nat.beq (cellsX (constX z)).length ei.size && (decide (0 < n) && (decide (n = n2) && (decide (n * ei.bytes ≤ 1048576) && (decide (n ≤ 1048576) && Nat.blt 0 ei.size)))))))) with
            | false => rw [hg] at h; exact h.elim
            | true =>
              rw [hg] at h
              simp only [Bool.and_eq_true, allLt, Bool.not_eq_true', decide_eq_true_eq] at hg
              obtain ⟨⟨hm, hts⟩, hfl, htu, hsz, hn0, hnn, hb, hn1, hs0⟩ := hg
              subst hnn
              have hsz := Nat.eq_of_beq_eq_true hsz
              have hs0 : 0 < ei.size := by simpa using hs0
              have hzl : ((List.replicate n.toNat (cellsX (constX z))).flatten).all (·.lt M.length) = true := by
                have h1 := constX_lt z M.length
                rw [List.all_eq_true] at h1 ⊢
                intro x hx
                obtain ⟨l, hl, hx⟩ := List.mem_flatten.1 hx
                rw [List.eq_of_mem_replicate hl] at hx
                exact h1 x hx
              refine ⟨_, _, h, fun β w df hI => ?_⟩
              have hp := hI.push e _ hm hzl
              have hx := put1_ext β M.length w.heap.size
              refine ⟨_, _, _, ?_, .inl rfl, hp, hx, fr_ext hx hts, by simp, keeps_push _ _ _ _ _ _⟩
              have hzc : z.cells = ((cellsX (constX z)).map (·.den β)).toArray := by rw [← cells_den htu hfl β, constX_den]
              have hzs : z.cells.size = ei.size := by rw [hzc]; simp [hsz]
              have hz2 := zeros_run z.cells n.toNat ei.size hzs
              have hz3 : (((List.replicate n.toNat (cellsX (constX z))).flatten).map (·.den β)).toArray = ((List.replicate n.toNat z.cells.toList).flatten).toArray := by
                rw [List.map_flatten, List.map_replicate, hzc]
              have e1 : (SX.one (.sl M.length 0 n.toNat n.toNat)).den (put1 β M.length w.heap.size) = .slice (some ⟨w.heap.size, 0, none⟩) n.toNat n.toNat := by show Value.slice (some ⟨put1 β M.length w.heap.size M.length, 0, none⟩) n.toNat n.toNat = _; rw [put1_at]
              have hw : IntKind.i64.wrap n = n := by
                unfold IntKind.wrap; simp [IntKind.bits, IntKind.signed]; omega
              have hb2 : ¬ ((ei.bytes : Int) * n > 2 ^ 48) := by rw [Int.mul_comm]; omega
              have hroom : ¬ (n.toNat * ei.bytes > roomBytes) := by
                have : ((n.toNat * ei.bytes : Nat) : Int) = n * ei.bytes := by rw [Int.natCast_mul, Int.toNat_of_nonneg (by omega)]
                have hr : roomBytes = 140737488355328 := by decide
                omega
              simp only [execOp, ho, rd_den, hl, hc, Instr.makeSlice, Sem.run_bind, run_underlying ht, Result.andThen_ok, Sem.run_pure, asInt, asIntOf, typeInfo, program, Sem.run, hi]
              have hel : (SX.v (.c (.val (.int kl n)))).den β = .int kl n := rfl
              have hec : (SX.v (.c (.val (.int kc n)))).den β = .int kc n := rfl
              rw [hel, hec, e1]
              have hnz : ¬ n.toNat * ei.size = 0 := by
                have : 0 < n.toNat * ei.size := Nat.mul_pos (by omega) hs0
                omega
              simp [hw, askRoom, hnz, run_sizeOf' hi, zeroValue, typeInfo, program, Sem.run, hi, hz, new_run]
              have hb3 : ¬ (281474976710656 : Int) < (ei.bytes : Int) * n := by simpa using hb2
              rw [if_neg (by rintro ((h1 | h1) | h1); exact absurd h1 (by omega); exact hb3 h1; exact absurd h1 (by omega))]
              have hz4 : (n.toNat * ei.bytes ≤ roomBytes) := Nat.le_of_not_gt hroom
              first
              | (rw [hz2, hzc]; done)
              | (rw [hz2, hzc])
        | false =>
          rw [hcl] at h
          simp only [cond_false] at h
          cases hg : (allLt M.length M ts && ((cellsX (constX z)).all SC.flat && (!isTup (constX z) && (Nat.beq (cellsX (constX z)).length ei.size && (Nat.blt 0 ei.size && Nat.blt 0 ei.bytes))))) with
          | false => rw [hg] at h; exact h.elim
          | true =>
            rw [hg] at h
            simp only [Bool.and_eq_true, allLt, Bool.not_eq_true'] at hg
            obtain ⟨⟨hm, hts⟩, hfl, htu, hsz, hs0, hb0⟩ := hg
            have hsz := Nat.eq_of_beq_eq_true hsz
            have hs0 : 0 < ei.size := by simpa using hs0
            have hb0 : 0 < ei.bytes := by simpa using hb0
            obtain ⟨⟨m0, m1, m2⟩, hk⟩ := h
            refine ⟨_, _, hk, fun β w df hI => ?_⟩
            have hn2 : n2 ≤ 281474976710656 := by
              have h9 : 0 ≤ n2 := by omega
              have h8 : 1 * n2 ≤ (ei.bytes : Int) * n2 := Int.mul_le_mul_of_nonneg_right (by omega) h9
              rw [Int.one_mul] at h8
              exact Int.le_trans h8 m2
            have hzs : z.cells = ((cellsX (constX z)).map (·.den β)).toArray := by rw [← cells_den htu hfl β, constX_den]
            have hzl : z.cells.size = ei.size := by rw [hzs]; simp [hsz]
            have hml : maxLen = 9223372036854775807 := rfl
            have hmade : ∀ q, q < n2.toNat * ei.size → (madeCells z.cells (n2.toNat * ei.size)).toList[q]? = (cellsX (constX z))[q % ei.size]?.map (·.den β) := fun q hq => by
              have hq2 : q % ei.size < z.cells.size := by rw [hzl]; exact Nat.mod_lt _ hs0
              have e1 : z.cells[q % ei.size]? = (cellsX (constX z))[q % ei.size]?.map (·.den β) := by rw [hzs, List.getElem?_toArray, List.getElem?_map]
              rw [← e1]
              unfold madeCells
              rw [Array.getElem?_toList, Array.getElem?_map]
              simp [hq, hzl]
              rw [getElem!_pos z.cells _ hq2, Array.getElem?_eq_getElem hq2]
            obtain ⟨β', hx, hI2, hsv⟩ := hI.newL hm e ei.size n.toNat n2.toNat (fun _ => cellsX (constX z)) (madeCells z.cells (n2.toNat * ei.size)) _ (by omega) (by omega) (by rw [size_madeCells]) rfl (fun j hj => by
              have hjc : (j + 1) * ei.size ≤ n.toNat * ei.size := Nat.mul_le_mul_right _ hj
              have hnc : n.toNat * ei.size ≤ n2.toNat * ei.size := Nat.mul_le_mul_right _ (by omega)
              rw [Nat.add_mul, Nat.one_mul] at hjc
              refine ⟨hsz, constX_lt z 0, hfl, fun m c hc => ?_⟩
              have hm : m < ei.size := by rw [← hsz]; exact get_lt hc
              rw [List.getElem?_take, if_pos (by omega), hmade _ (by omega)]
              have e2 : (j * ei.size + m) % ei.size = m := by rw [Nat.add_comm, Nat.add_mul_mod_self_right, Nat.mod_eq_of_lt hm]
              rw [e2, hc]
              have : c.den β = c.den nob := (SC.den_nob (List.all_eq_true.1 (constX_lt z 0) c (List.mem_of_getElem? hc)) β).symm
              simp [this])
            refine ⟨β', _, _, ?_, .inl rfl, hI2, hx, fr_ext hx hts, by simp, keeps_push _ _ _ _ _ _⟩
            have e1 : (SX.one (.lst M.length)).den β' = .slice (some ⟨w.heap.size, 0, none⟩) n.toNat n2.toNat := hsv
            have hel : (SX.v (.c (.val (.int kl n)))).den β = .int kl n := rfl
            have hec : (SX.v (.c (.val (.int kc n2)))).den β = .int kc n2 := rfl
            simp only [execOp, ho, rd_den, hl, hc, hel, hec, Sem.run_bind, e1]
            rw [run_make w t e ei z ht hi hz kl kc n n2 m0 m1 m2 (by omega)]
            rfl
        · exact h.elim
      · exact h.elim
    · exact h.elim
  · exact h.elim
theorem mapX_sound {P : Program} {O : Nat → Prop} {w0 : World} {M : List Blk} {ts : List SX} {o : Oper} {k : SX → List Blk → Prop} (h : mapX P M ts o k) : ∃ x M', k x M' ∧ GoodE P O w0 M ts o x M' := by
  unfold mapX at h
  split at h
  · rename_i t ho
    split at h
    · rename_i kt et ht
      cases hg : (allLt M.length M ts && (isI64 P kt && isI64 P et)) with
      | false => rw [hg] at h; exact h.elim
      | true =>
        rw [hg] at h
        simp only [Bool.and_eq_true, allLt] at hg
        obtain ⟨⟨hm, hts⟩, _, _⟩ := hg
        refine ⟨_, _, h, fun β w df hI => ?_⟩
        have hx := put1_ext β M.length w.heap.size
        have hn : put1 β M.length w.heap.size M.length = w.heap.size := put1_at _ _ _
        have hp : ∀ r, r < w.heap.size → (w.heap.push (.map #[] 0))[r]? = w.heap[r]? := fun r hr => by rw [Array.getElem?_push, if_neg (by omega)]
        have hsz : w.heap.size ≤ (w.heap.push (.map #[] 0)).size := by rw [Array.size_push]; omega
        have hmade := World.ownsMap_made w P kt (plainElem (H := Unit) P et)
        refine ⟨put1 β M.length w.heap.size, w.alloc (.map #[] 0), _, ?_, .inl rfl, ?_, hx, fr_ext hx hts, by simp, fun r hr _ => hp r hr⟩
        · simp only [execOp, ho, Option.map_none, Sem.run_bind, run_makeMap, Result.andThen_ok, Sem.run_pure]
          have e1 : (SX.one (.mpv M.length)).den (put1 β M.length w.heap.size) = .map (some w.heap.size) := by show Value.map (some (put1 β M.length w.heap.size M.length)) = _; rw [hn]
          rw [e1]
        · refine hI.grow hm _ hx ⟨hI.fr.os, hI.fr.tape, hI.fr.output, Nat.le_trans hI.fr.size hsz, fun r hr ho => ?_⟩ (fun i a hi hr => hp _ (hI.lt hi hr)) (fun i a hi hr _ => by rw [hn]; have := hI.lt hi hr; omega) (fun _ _ e2 => by cases e2) (fun _ _ _ _ e2 => by cases e2) (fun _ => by rw [hn]; exact .inl hI.fr.size) (hI.fzA hx _ hsz hp (fun _ => by rw [hn]; exact Nat.le_refl _)) (fun Q e2 => ?_) (fun _ e2 => by cases e2)
          · have := hI.fr.size
            rw [← hI.fr.block r hr ho]; exact hp r (by omega)
          · cases e2
            rw [hn]
            exact ⟨hmade, by show w.heap.size < (w.heap.push _).size; rw [Array.size_push]; omega⟩
    · exact h.elim
  · rename_i t m x v ho
    split at h
    · rename_i b a c hm hx hv
      split at h
      · rename_i Q kt et hb ht
        cases hg : (isI64 P kt && isI64 P et) with
        | false => rw [hg] at h; exact h.elim
        | true =>
          rw [hg] at h
          rw [Bool.and_eq_true] at hg
          have hkt := isI64_of hg.1
          have het := isI64_of hg.2
          obtain ⟨d, Q⟩ := Q
          obtain ⟨hQ, ⟨_, hn⟩, ha, hc, hk⟩ := h
          have hQ : Q = MapH P kt et d := hQ
          subst hQ
          have hn : (d.length : Int) < 9223372036854775807 := hn
          have hk : k undefX (M.set b (.ab ⟨(a, c) :: d, MapH P kt et ((a, c) :: d)⟩)) := hk
          refine ⟨_, _, hk, fun β w df hI => ?_⟩
          have hown : w.ownsMap P kt (plainElem P et) (β b) d.length (dataH d) := (hI.ab b _ hb).is
          obtain ⟨w', hrun, hown', hg'⟩ := hown.update (val := .int .i64 c) (key := .int .i64 a) (Go.Maps.int_keyed hkt) ht (by have : maxLen = 9223372036854775807 := rfl; omega) (Go.Maps.keyOf_int_mk hkt ha.wf) (plainElem_int het hc.wf)
          have hother : ∀ r, r < w.heap.size → r ≠ β b → w'.heap[r]? = w.heap[r]? := fun r hr hne => hg'.block r hr (fun e => hne (by first | exact Option.some.inj e | exact (Option.some.inj e).symm))
          have hset : ∀ {i2 : Nat} {q : Blk} {Q2 : Blk}, (M.set b Q2)[i2]? = some q → (i2 = b ∧ q = Q2) ∨ (i2 ≠ b ∧ M[i2]? = some q) := fun {i2 q Q2} hi2 => by
            by_cases hbi : b = i2
            · subst hbi
              rw [List.getElem?_set_self (get_lt hb)] at hi2
              cases hi2; exact .inl ⟨rfl, rfl⟩
            · rw [List.getElem?_set_ne hbi] at hi2; exact .inr ⟨fun e => hbi e.symm, hi2⟩
          have hkeep : ∀ {i2 : Nat} {q : Blk}, i2 ≠ b → M[i2]? = some q → q.real β i2 → w'.heap[β i2]? = w.heap[β i2]? := fun hn hm2 hr => hother _ (hI.lt hm2 hr) fun he2 => hn (hI.inj _ b _ _ hm2 hb hr trivial he2)
          have hget : ∀ {i2 : Nat} {q : Blk}, (M.set b (.ab ⟨(a, c) :: d, MapH P kt et ((a, c) :: d)⟩))[i2]? = some q → q.real β i2 → ∃ q0, M[i2]? = some q0 ∧ q0.real β i2 := fun {i2 q} hi2 hr => by
            rcases hset hi2 with ⟨rfl, rfl⟩ | ⟨_, hm2⟩
            · exact ⟨_, hb, trivial⟩
            · exact ⟨q, hm2, hr⟩
          refine ⟨β, w', .skip, ?_, .inr ⟨rfl, rfl⟩, ⟨fun i e cs hi => ?_, fun i e sz n2 f hi => ?_, fun i j q1 q2 hi hj hr hs he => ?_, ⟨hg'.os.trans hI.fr.os, hg'.tape.trans hI.fr.tape, hg'.output.trans hI.fr.output, Nat.le_trans hI.fr.size hg'.size, fun r hr ho2 => ?_⟩, fun i q hi hr => ?_, fun i Q hi => ?_, fun i Q hi => ?_⟩, Ext.refl _ _, rfl, by simp, fun r hr hne => hother r hr (hne b _ (by unfold tgt; simp only [ho, hm]) hb trivial)⟩
          · have e9 : (SX.v (.c (.mpv b))).den β = .map (some (β b)) := rfl
            have e8 : (SX.v (.c (.val (.int .i64 a)))).den β = .int .i64 a := rfl
            have e7 : (SX.v (.c (.val (.int .i64 c)))).den β = .int .i64 c := rfl
            simp only [execOp, ho, rd_den, hm, hx, hv, e9, e8, e7, Sem.run_bind, hrun, Result.andThen_ok, Sem.run_pure]
          · rcases hset hi with ⟨_, e3⟩ | ⟨hn2, hm2⟩
            · cases e3
            · rw [hkeep hn2 hm2 trivial]; exact hI.at_ i e cs hm2
          · rcases hset hi with ⟨_, e3⟩ | ⟨hn2, hm2⟩
            · cases e3
            · exact (hI.ls i e sz n2 f hm2).kept rfl rfl (fun hr => hkeep hn2 hm2 hr)
          · obtain ⟨a0, ha0, hr0⟩ := hget hi hr
            obtain ⟨c0, hc0, hs0⟩ := hget hj hs
            exact hI.inj i j a0 c0 ha0 hc0 hr0 hs0 he
          · rw [hother r (Nat.lt_of_lt_of_le hr hI.fr.size) (fun he2 => ?_)]
            · exact hI.fr.block r hr ho2
            · rcases hI.low b _ hb trivial with h6 | h6
              · omega
              · rw [he2] at ho2; exact ho2 h6
          · obtain ⟨a0, ha0, hr0⟩ := hget hi hr
            exact hI.low i a0 ha0 hr0
          · rcases hset hi with ⟨rfl, e3⟩ | ⟨hn2, hm2⟩
            · have hown2 := hown'
              obtain ⟨es, clock, hes, _⟩ := hown2
              have hat : AbAt ⟨(a, c) :: d, MapH P kt et ((a, c) :: d)⟩ w' (β i) := ⟨hown', (Array.getElem?_eq_some_iff.1 hes).1⟩
              rw [Blk.ab.inj e3]
              exact hat
            · exact (hI.ab i Q hm2).kept (hkeep hn2 hm2 trivial)
          · rcases hset hi with ⟨_, e3⟩ | ⟨hn2, hm2⟩
            · cases e3
            · refine (hI.fz i Q hm2).step (Nat.le_refl _) hg'.size fun r _ hr2 h3 => ⟨hother r hr2 fun e => h3 b _ hb trivial e.symm, fun j q hj hr => ?_⟩
              obtain ⟨a0, ha0, hr0⟩ := hget hj hr
              exact h3 j a0 ha0 hr0
      · exact h.elim
    · exact h.elim
  · exact h.elim
/-- What is appended, in the memory. -/
theorem srcX_sound {O : Nat → Prop} {w0 : World} {M : List Blk} {sz : Nat} {x : SX} {k : Nat → (Nat → List SC) → Prop} (h : srcX O w0 M sz x k) :
    ∃ m g, k m g ∧ ∀ (β : Env) (w : World), Inv O w0 β M w → ∃ news, Elems sz m g news ∧ ((x.den β = .slice none 0 0 ∧ m = 0) ∨ (∃ c, x.den β = .slice none 0 c ∧ m = 0) ∨ ∃ a c, x.den β = .slice (some a) m c ∧ ∀ j u, news[j]? = some u → w.cell? (a.add j) = some u) := by
  unfold srcX at h
  split at h
  · rename_i b off m cap
    split at h
    · rename_i e cs hb
      cases hg : (Nat.ble (off + m * sz) cs.length && ((cs.drop off).all (·.lt 0) && (cs.drop off).all SC.ok)) with
      | false => rw [hg] at h; exact h.elim
      | true =>
        rw [hg] at h
        simp only [Bool.and_eq_true] at hg
        obtain ⟨hl, h0, h1⟩ := hg
        have hl := Nat.le_of_ble_eq_true hl
        simp only [cond_true] at h
        have hall : ∀ {p : SC → Bool}, (cs.drop off).all p = true → ((cs.drop off).take (m * sz)).all p = true := fun hp => by
          rw [List.all_eq_true] at hp ⊢
          exact fun x hx => hp x (List.mem_of_mem_take hx)
        have hmain : ∀ (β : Env) (w : World), Inv O w0 β M w → ∃ news, Elems sz m (fun j => (chunks sz m ((cs.drop off).take (m * sz))).getD j []) news ∧ (((SX.v (.c (.sl b off m cap))).den β = .slice none 0 0 ∧ m = 0) ∨ (∃ c, (SX.v (.c (.sl b off m cap))).den β = .slice none 0 c ∧ m = 0) ∨ ∃ a c, (SX.v (.c (.sl b off m cap))).den β = .slice (some a) m c ∧ ∀ j u, news[j]? = some u → w.cell? (a.add j) = some u) := fun β w hI => by
          refine ⟨_, elemsOk_chunks (base := β) (by rw [List.length_take, List.length_drop]; omega) (hall h0) (hall h1), .inr (.inr ⟨_, _, rfl, fun j u hu => ?_⟩)⟩
          rw [List.getElem?_map, List.getElem?_take] at hu
          split at hu
          · rw [List.getElem?_drop] at hu
            cases hc : cs[off + j]? with
            | none => rw [hc] at hu; cases hu
            | some c =>
              rw [hc] at hu
              cases hu
              rw [add_plain']
              exact hI.cell hb (k := .mk e cs) hc
          · cases hu
        have hch : ∀ j, j < m → (chunks sz m ((cs.drop off).take (m * sz))).getD j [] = (chunks sz m (cs.drop off)).getD j [] := fun j hj => by
          rw [chunks_at m _ j hj, chunks_at m _ j hj, List.drop_take, List.take_take]
          have he : (j + 1) * sz ≤ m * sz := Nat.mul_le_mul_right _ hj
          rw [Nat.add_mul, Nat.one_mul] at he
          rw [Nat.min_eq_left (by omega)]
        split at h
        · refine ⟨_, _, h, fun β w hI => ?_⟩
          obtain ⟨news, hn, hv⟩ := hmain β w hI
          refine ⟨news, hn.congr fun j hj => ?_, hv⟩
          rw [hch j hj]
          have : j = 0 := by omega
          subst this
          rfl
        · refine ⟨_, _, h, fun β w hI => ?_⟩
          obtain ⟨news, hn, hv⟩ := hmain β w hI
          exact ⟨news, hn.congr hch, hv⟩
    · exact h.elim
  · rename_i A sz' at_ lo m cap
    cases hs : Nat.beq sz' sz with
    | false => rw [hs] at h; exact h.elim
    | true =>
      rw [hs] at h
      obtain rfl := Nat.eq_of_beq_eq_true hs
      obtain ⟨⟨hr⟩, hk⟩ := h
      refine ⟨_, _, hk, fun β w hI => ?_⟩
      have hlt : ∀ j, j < m → (at_ (lo + j)).all (·.lt 0) = true := fun j hj => by
        obtain ⟨_, ⟨⟨a, _, _, _, hl, _⟩⟩, _, _⟩ := hr j hj
        exact hl
      obtain ⟨news, hn⟩ := Elems.of (sz := sz') (n := m) (f := fun j => at_ (lo + j)) (fun j hj => ⟨(hr j hj).2.2.1, hlt j hj, (hr j hj).2.2.2⟩)
      refine ⟨news, hn, ?_⟩
      rcases Nat.eq_zero_or_pos m with rfl | hpos
      · cases A with
        | none => exact .inr (.inl ⟨cap, rfl, rfl⟩)
        | some a =>
          refine .inr (.inr ⟨_, _, rfl, fun j u hu => ?_⟩)
          have := get_lt hu
          rw [hn.len, Nat.zero_mul] at this
          omega
      · obtain ⟨a, rfl⟩ := Option.isSome_iff_exists.1 (hr 0 hpos).1
        refine .inr (.inr ⟨_, _, rfl, fun i u hu => ?_⟩)
        have hi : i < m * sz' := by rw [← hn.len]; exact get_lt hu
        have hs : 0 < sz' := by
          rcases Nat.eq_zero_or_pos sz' with e | e
          · rw [e, Nat.mul_zero] at hi; omega
          · exact e
        have hj : i / sz' < m := Nat.div_lt_of_lt_mul (by rw [Nat.mul_comm]; exact hi)
        obtain ⟨_, ⟨⟨a', ha', hblk, hO, hl, hcell⟩⟩, hlen, _⟩ := hr (i / sz') hj
        cases ha'
        have hm : i % sz' < (at_ (lo + i / sz')).length := by rw [hlen]; exact Nat.mod_lt _ hs
        have h1 := (hn.ok (i / sz') hj).2.2.2 (i % sz') _ (List.getElem?_eq_getElem hm)
        rw [Nat.mul_comm, Nat.div_add_mod] at h1
        rw [hu] at h1
        cases h1
        have h2 := hcell (i % sz') _ (List.getElem?_eq_getElem hm)
        have e2 : (lo + i / sz') * sz' + i % sz' = lo * sz' + i := by
          rw [Nat.add_mul, Nat.add_assoc, Nat.mul_comm (i / sz'), Nat.div_add_mod]
        rw [e2] at h2
        rw [Addr.add_add]
        have hb : (a.add (lo * sz' + i)).block = a.block := by unfold Addr.add; split <;> rfl
        rw [hI.fr.cell (by rw [hb]; exact hblk) (by rw [hb]; exact hO)]
        exact h2
  · rename_i b
    split at h
    · rename_i e sz' n f hb
      cases hs : Nat.beq sz' sz with
      | false => rw [hs] at h; exact h.elim
      | true =>
        rw [hs] at h
        obtain rfl := Nat.eq_of_beq_eq_true hs
        refine ⟨_, _, h, fun β w hI => ?_⟩
        obtain ⟨xs, ho, he⟩ := (hI.ls b e sz' n f hb).own
        refine ⟨xs, ⟨ho.1, he⟩, ?_⟩
        show (β.sv b = _ ∧ _) ∨ _
        rcases ho.2 with ⟨e1, e2⟩ | ⟨g, cap, cur, e1, _⟩
        · exact .inl ⟨e1, e2⟩
        · exact .inr (.inr ⟨_, _, e1, ho.cells (by rw [e1]; rfl)⟩)
    · exact h.elim
  · rename_i c
    refine ⟨_, _, h, fun β w hI => ⟨[], Elems.nil _ _, .inr (.inl ⟨c, rfl, rfl⟩)⟩⟩
  · exact h.elim
/-- What is appended to. -/
theorem dstX_sound {M : List Blk} {e : TypeId} {sz : Nat} {x : SX} {k : Nat → (Nat → List SC) → List Blk → Prop} (h : dstX M e sz x k) :
    ∃ n f M', k n f M' ∧ M'.length = M.length ∧ (∀ (i : Nat) (a : Blk), M'[i]? = some a → a = Blk.dead ∨ M[i]? = some a) ∧ ∀ (O : Nat → Prop) (w0 : World) (β : Env) (w : World), Inv O w0 β M w →
      ∃ xs, w.ownsRow 0 e sz (x.den β) n xs ∧ Elems sz n f xs ∧ ∀ r, (x.den β).ownBlock = some r → (w0.heap.size ≤ r ∨ O r) ∧ (∀ (i : Nat) (a : Blk), M'[i]? = some a → a.real β i → β i ≠ r) ∧ ∃ b a, bOf x = some b ∧ M[b]? = some a ∧ a.real β b ∧ r = β b := by
  have hset : ∀ (b : Nat) (i : Nat) (a : Blk), (M.set b .dead)[i]? = some a → a = Blk.dead ∨ (M[i]? = some a ∧ i ≠ b) := fun b i a hi => by
    by_cases hb : b = i
    · subst hb
      rw [List.getElem?_set_self (by have := get_lt hi; simpa using this)] at hi
      cases hi; exact .inl rfl
    · rw [List.getElem?_set_ne hb] at hi; exact .inr ⟨hi, fun e => hb e.symm⟩
  unfold dstX at h
  split at h
  · rename_i b off m cap
    split at h
    · rename_i e' cs hb
      cases hg : (Nat.beq e' e && (Nat.beq off 0 && (Nat.beq m cap && (Nat.beq cs.length (m * sz) && (Nat.ble m maxLen && (cs.all (·.lt 0) && cs.all SC.ok)))))) with
      | false => rw [hg] at h; exact h.elim
      | true =>
        rw [hg] at h
        simp only [Bool.and_eq_true] at hg
        obtain ⟨g1, g2, g3, g4, g5, g6, g7⟩ := hg
        obtain rfl := Nat.eq_of_beq_eq_true g1
        obtain rfl := Nat.eq_of_beq_eq_true g2
        obtain rfl := Nat.eq_of_beq_eq_true g3
        have g4 := Nat.eq_of_beq_eq_true g4
        have g5 := Nat.le_of_ble_eq_true g5
        refine ⟨_, _, _, h, by simp, fun i a hi => (hset b i a hi).imp id (·.1), fun O w0 β w hI => ⟨cs.map (·.den β), ⟨by simp [g4], .inr ⟨β b, m, _, rfl, Nat.zero_le _, hI.at_ b e' cs hb, Nat.le_refl _, g5, by simp [g4], ?_⟩⟩, elemsOk_chunks g4 g6 g7, fun r hr => ?_⟩⟩
        · rw [← g4]; exact List.take_of_length_le (by simp)
        · have hr : r = β b := by
            have : some (β b) = some r := hr
            cases this; rfl
          subst hr
          refine ⟨hI.low b _ hb trivial, fun i a hi hra he => ?_, b, _, rfl, hb, trivial, rfl⟩
          rcases hset b i a hi with rfl | ⟨hi, hne⟩
          · exact hra.elim
          · exact hne (hI.inj i b _ _ hi hb hra trivial he)
    · exact h.elim
  · rename_i b
    split at h
    · rename_i e' sz' n f hb
      cases hg : (Nat.beq e' e && Nat.beq sz' sz) with
      | false => rw [hg] at h; exact h.elim
      | true =>
        rw [hg] at h
        simp only [Bool.and_eq_true] at hg
        obtain rfl := Nat.eq_of_beq_eq_true hg.1
        obtain rfl := Nat.eq_of_beq_eq_true hg.2
        refine ⟨_, _, _, h, by simp, fun i a hi => (hset b i a hi).imp id (·.1), fun O w0 β w hI => ?_⟩
        have hL := hI.ls b e' sz' n f hb
        obtain ⟨xs, ho, he⟩ := hL.own
        refine ⟨xs, ho, ⟨ho.1, he⟩, fun r hr => ?_⟩
        have hr2 : (β.v b).1.isSome = true ∧ r = β b := by
          have hr : (Value.slice (β.v b).1 (β.v b).2.1 (β.v b).2.2).ownBlock = some r := hr
          cases hv : (β.v b).1 with
          | none => rw [hv] at hr; cases hr
          | some a =>
            rw [hv] at hr
            have : a.block = r := by cases hr; rfl
            exact ⟨rfl, by rw [← this]; exact hL.blk a hv⟩
        obtain ⟨hreal, rfl⟩ := hr2
        refine ⟨hI.low b _ hb hreal, fun i a hi hra he => ?_, b, _, rfl, hb, hreal, rfl⟩
        rcases hset b i a hi with rfl | ⟨hi, hne⟩
        · exact hra.elim
        · exact hne (hI.inj i b _ _ hi hb hra hreal he)
    · exact h.elim
  · refine ⟨_, _, _, h, rfl, fun i a hi => .inr hi, fun O w0 β w hI => ⟨[], World.ownsRow_nil w 0 e sz, Elems.nil _ _, fun r hr => by cases hr⟩⟩
  · exact h.elim
/-- The memory without what is gone. -/
theorem Inv.less {O : Nat → Prop} {w0 w : World} {β : Env} {M M' : List Blk} (h : Inv O w0 β M w) (hM : ∀ (i : Nat) (a : Blk), M'[i]? = some a → a = Blk.dead ∨ M[i]? = some a) : Inv O w0 β M' w := by
  have hr : ∀ {i : Nat} {a : Blk}, M'[i]? = some a → a.real β i → M[i]? = some a := fun {i a} hi hra => by
    rcases hM i a hi with rfl | hi
    · exact hra.elim
    · exact hi
  exact ⟨fun i e cs hi => h.at_ i e cs (hr hi trivial), fun i e sz n f hi => by
      rcases hM i _ hi with e2 | hi
      · cases e2
      · exact h.ls i e sz n f hi,
    fun i j a b hi hj hra hrb => h.inj i j a b (hr hi hra) (hr hj hrb) hra hrb, h.fr, fun i a hi hra => h.low i a (hr hi hra) hra, fun i Q hi => h.ab i Q (hr hi trivial), fun i Q hi => by
      rcases hM i _ hi with e2 | hi
      · cases e2
      · exact (h.fz i Q hi).step (Nat.le_refl _) (Nat.le_refl _) fun r _ _ h3 => ⟨rfl, fun j a hj hra => h3 j a (hr hj hra) hra⟩⟩
theorem memLt_less {n : Nat} {M M' : List Blk} (h : memLt n M = true) (hM : ∀ (i : Nat) (a : Blk), M'[i]? = some a → a = Blk.dead ∨ M[i]? = some a) : memLt n M' = true :=
  List.all_eq_true.2 fun a ha => by
    obtain ⟨i, hi⟩ := List.getElem?_of_mem ha
    rcases hM i a hi with rfl | hi
    · rfl
    · exact List.all_eq_true.1 h a (List.mem_of_getElem? hi)
def blkOf (a : Option Addr) : Nat := match a with
  | some a => a.block
  | none => 0
theorem apX_sound {P : Program} {O : Nat → Prop} {w0 : World} {M : List Blk} {ts : List SX} {o : Oper} {c : Call} (ho : o.op = .call c) (hc : c.callee = .builtin .append) {k : SX → List Blk → Prop} (h : apX P O w0 M ts c k)
    (β : Env) (w : World) (df : List Deferred) (hI : Inv O w0 β M w) :
    ∃ x M' β' w', k x M' ∧ (execOp (Act.eval ⟨fr β ts, df⟩) o).run P w = .ok (.value (x.den β')) w' ∧ Inv O w0 β' M' w' ∧ Ext M.length β β' ∧ fr β' ts = fr β ts ∧ M.length ≤ M'.length ∧ Keeps β M ts o w w' := by
  unfold apX at h
  split at h
  · rename_i s x t t' hargs htys
    split at h
    · rename_i e ht
      split at h
      · rename_i i hi
        split at h
        · rename_i z hz
          cases hg : (Nat.beq t t' && (allLt M.length M ts && (Nat.beq (cellsX (constX z)).length i.size && (!isTup (constX z) && ((cellsX (constX z)).all SC.flat && (Nat.blt 0 i.size && Nat.blt 0 i.bytes)))))) with
          | false => rw [hg] at h; exact h.elim
          | true =>
            rw [hg] at h
            simp only [Bool.and_eq_true, allLt, Bool.not_eq_true'] at hg
            obtain ⟨g1, ⟨hm, hts⟩, g2, g3, g4, g5, g6⟩ := hg
            obtain rfl := Nat.eq_of_beq_eq_true g1
            have g2 := Nat.eq_of_beq_eq_true g2
            simp only [cond_true] at h
            obtain ⟨m, g, h, hsrc⟩ := srcX_sound h
            obtain ⟨n, f, M', ⟨⟨hroom⟩, hk⟩, hlen, hless, hdst⟩ := dstX_sound h
            obtain ⟨news, hn, hx⟩ := hsrc β w hI
            obtain ⟨xs, hown, hxs, hblk⟩ := hdst O w0 β w hI
            have hzs : z.cells.size = i.size := by rw [← constX_den β z, cells_den g3 g4 β]; simpa using g2
            obtain ⟨v', w', hrun, hown', hgb, hb⟩ := append_run (P := P) w 0 t o.type e i z ht hi hz hzs (by simpa using g6) _ _ n m xs news hown hn.len hn.one hx hroom (Nat.zero_le _)
            obtain ⟨a', n', c', rfl⟩ : ∃ a n c, v' = .slice a n c := by
              rcases hown'.2 with ⟨e1, _⟩ | ⟨_, _, _, e1, _⟩
              · exact ⟨_, _, _, e1⟩
              · exact ⟨_, _, _, e1⟩
            have hβ := envAp_ext β M.length (blkOf a') (a', n', c')
            generalize hβ' : (⟨fun i => if i = M.length then (blkOf a') else β i, fun i => if i = M.length then (a', n', c') else β.v i⟩ : Env) = β' at hβ
            have hv' : β'.v M.length = (a', n', c') := by rw [← hβ']; show (if M.length = M.length then _ else _) = _; rw [if_pos rfl]
            have hb' : β' M.length = (blkOf a') := by rw [← hβ']; show (if M.length = M.length then _ else _) = _; rw [if_pos rfl]
            have hsv : β'.sv M.length = .slice a' n' c' := by unfold Env.sv; rw [hv']
            have hI1 := hI.less hless
            have hI2 : Inv O w0 β' (M' ++ [.lst e i.size (n + m) (joinF n f g)]) w' := by
              refine hI1.grow (by rw [hlen]; exact memLt_less hm hless) _ (by rw [hlen]; exact hβ) ⟨hgb.os.trans hI.fr.os, hgb.tape.trans hI.fr.tape, hgb.output.trans hI.fr.output, Nat.le_trans hI.fr.size hgb.size, fun r hr hor => ?_⟩ (fun j a hj hra => ?_) (fun j a hj hra hrn => ?_) (fun _ _ e2 => by cases e2) (fun e2 sz2 n2 f2 he2 => ?_) (fun hrn => ?_) (fun i2 Q hi2 => ?_) (fun _ e2 => by cases e2) (fun _ e2 => by cases e2)
              rotate_right
              · have hmi : M[i2]? = some (Blk.fz Q) := by
                  rcases hless i2 _ hi2 with e2 | hm2
                  · cases e2
                  · exact hm2
                refine (hI.fz i2 Q hmi).step (Nat.le_refl _) hgb.size fun r _ hr2 h3 => ⟨hgb.block r hr2 fun he => ?_, fun j a hj hra => ?_⟩
                · obtain ⟨_, _, b2, a2, _, hm2, hr2, hrb2⟩ := hblk r he.symm
                  exact h3 b2 a2 hm2 hr2 hrb2.symm
                · rcases get_push hj with ⟨hlt, hj⟩ | ⟨rfl, rfl⟩
                  · rw [hlen] at hlt
                    rw [(hβ j hlt).1]
                    rcases hless j a hj with e2 | hm2
                    · subst e2; exact hra.elim
                    · exact h3 j a hm2 ((real_ext hβ hlt).1 hra)
                  · rw [hlen] at hra ⊢
                    rw [hb']
                    unfold Blk.real at hra
                    rw [hv'] at hra
                    obtain ⟨ad, rfl⟩ := Option.isSome_iff_exists.1 hra
                    rcases hb with hb | hb
                    · obtain ⟨_, _, b2, a2, _, hm2, hr3, hrb2⟩ := hblk _ hb.symm
                      intro he
                      exact h3 b2 a2 hm2 hr3 (by rw [← hrb2]; exact he)
                    · have : ad.block = w.heap.size := Option.some.inj hb
                      show ad.block ≠ r
                      omega
              · rw [hgb.block r (Nat.lt_of_lt_of_le hr hI.fr.size) (fun he => ?_)]
                · exact hI.fr.block r hr hor
                · rcases (hblk r he.symm).1 with h1 | h1
                  · omega
                  · exact hor h1
              · exact hgb.block _ (hI1.lt hj hra) (fun he => (hblk _ he.symm).2.1 j a hj hra rfl)
              · rw [hlen] at hrn ⊢
                rw [hb']
                unfold Blk.real at hrn
                rw [hv'] at hrn
                obtain ⟨ad, rfl⟩ := Option.isSome_iff_exists.1 hrn
                rcases hb with hb | hb
                · exact (hblk _ hb.symm).2.1 j a hj hra
                · have hlt := hI1.lt hj hra
                  have : ad.block = w.heap.size := Option.some.inj hb
                  show β j ≠ ad.block
                  omega
              · cases he2
                rw [hlen]
                refine ⟨⟨_, by rw [hsv]; exact hown', (hxs.join hn).ok⟩, fun a ha => ?_⟩
                rw [hv'] at ha
                rw [hb']
                have ha : a' = some a := ha
                rw [ha]; rfl
              · rw [hlen] at hrn ⊢
                rw [hb']
                unfold Blk.real at hrn
                rw [hv'] at hrn
                obtain ⟨ad, rfl⟩ := Option.isSome_iff_exists.1 hrn
                rcases hb with hb | hb
                · exact (hblk _ hb.symm).1
                · have : ad.block = w.heap.size := Option.some.inj hb
                  show w0.heap.size ≤ ad.block ∨ _
                  have := hI.fr.size
                  exact .inl (by omega)
            refine ⟨_, _, β', w', hk, ?_, hI2, hβ, fr_ext hβ hts, by simp [hlen], fun r hr hne => hgb.block r hr (fun he => ?_)⟩
            rotate_left
            · obtain ⟨_, _, b, a, hbo, hbm, hbr, hrb⟩ := hblk r he.symm
              exact hne b a (by unfold tgt; simp only [ho, hc, hargs, hbo]) hbm hbr hrb
            have ha : c.args = #[s, x] := by cases hh : c.args; simp_all
            have hty : c.argTypes = #[t, t] := by cases hh : c.argTypes; simp_all
            have e1 : (SX.one (.lst M.length)).den β' = .slice a' n' c' := hsv
            simp only [execOp, ho, resolve, hc, invoke, builtin, Sem.run_bind, Sem.run_pure, Result.andThen_ok, ha, hty, e1, List.map_toArray, List.map_cons, List.map_nil, rd_den]
            simp only [hrun, Result.andThen_ok]
        · exact h.elim
      · exact h.elim
    · exact h.elim
  · exact h.elim
/-! ### calls -/
/-- From this number on a number stands for a package-level variable: its address is told. -/
def GK : Nat := 1000000000
abbrev Hand := FuncId → List SX → List Blk → (SX → List Blk → Prop) → Prop
/-- Calls, and which of them write nothing that stood. -/
structure Hd where
  call : Hand
  pure : FuncId → Bool
def Kept (w w' : World) : Prop := ∀ r, r < w.heap.size → w'.heap[r]? = w.heap[r]?
structure Grow (M M' : List Blk) (β β' : Env) : Prop where
  le : M.length ≤ M'.length
  ext : Ext M.length β β'
theorem Grow.refl (M : List Blk) (β : Env) : Grow M M β β := ⟨Nat.le_refl _, Ext.refl _ _⟩
theorem Grow.trans {M M' M'' : List Blk} {β β' β'' : Env} (h : Grow M M' β β') (h' : Grow M' M'' β' β'') : Grow M M'' β β'' :=
  ⟨Nat.le_trans h.le h'.le, h.ext.trans (h'.ext.le h.le)⟩
def HS (P : Program) (O : Nat → Prop) (w0 : World) (H : Hd) : Prop :=
  (∀ f args M k, f < GK → H.call f args M k → memLt M.length M = true → ∀ β w, Inv O w0 β M w → Calls P f (fr β args) w (fun e w' => ∃ x M' β', k x M' ∧ e = .returned (x.den β') ∧ Inv O w0 β' M' w' ∧ Grow M M' β β' ∧ (H.pure f = true → Kept w w'))) ∧
  ∀ g M k, H.call (GK + g) [] M k → ∃ x, (∀ β, x.den β = .pointer (some ⟨g, 0, none⟩)) ∧ k x M
/-! ### clear on a part of a list of ours -/
theorem flat_at {α : Type} (l : List α) (hl : 0 < l.length) : ∀ (n q m : Nat), q < n → m < l.length → (List.replicate n l).flatten[q * l.length + m]? = l[m]?
  | 0, q, m, hq, _ => absurd hq (Nat.not_lt_zero q)
  | n + 1, 0, m, _, hm => by
    rw [List.replicate_succ, List.flatten_cons, Nat.zero_mul, Nat.zero_add, List.getElem?_append_left hm]
  | n + 1, q + 1, m, hq, hm => by
    rw [List.replicate_succ, List.flatten_cons, Nat.add_mul, Nat.one_mul, List.getElem?_append_right (by omega), show q * l.length + l.length + m - l.length = q * l.length + m by omega]
    exact flat_at l hl n q m (Nat.lt_of_succ_lt_succ hq) hm
theorem flat_len {α : Type} (l : List α) (n : Nat) : (List.replicate n l).flatten.length = n * l.length := by
  induction n with
  | zero => simp
  | succ n ih => rw [List.replicate_succ, List.flatten_cons, List.length_append, ih, Nat.add_mul]; omega
def clrX (P : Program) (M : List Blk) (ts : List SX) (c : Call) (k : SX → List Blk → Prop) : Prop :=
  match c.args.toList, c.argTypes.toList with
  | [s], [t] =>
    (match rd ts s, P.underlying t with
    | .v (.c (.lsub b sz lo n)), some (.slice e) =>
      (match M[b]?, P.info? e with
      | some (.lst e0 sz' n0 f), some ei =>
        (match ei.zero with
        | some z => (bif Nat.beq sz' sz && (Nat.beq (cellsX (constX z)).length sz && ((cellsX (constX z)).all SC.flat && (!isTup (constX z) && Nat.blt 0 sz))) then
            In ((lo : Int) + (n : Int)) ((n0 : Int) + 1) ∧ k (.tup []) (M.set b (.lst e0 sz n0 (fun j => bif Nat.ble lo j && Nat.blt j (lo + n) then cellsX (constX z) else f j))) else False)
        | none => False)
      | _, _ => False)
    | _, _ => False)
  | _, _ => False
theorem clrX_sound {P : Program} {O : Nat → Prop} {w0 : World} {M : List Blk} {ts : List SX} {o : Oper} {c : Call} (ho : o.op = .call c) (hc : c.callee = .builtin .clear) {k : SX → List Blk → Prop} (h : clrX P M ts c k) : ∃ x M', k x M' ∧ GoodE P O w0 M ts o x M' := by
  unfold clrX at h
  split at h
  · rename_i s t hargs htys
    split at h
    · rename_i b sz lo m e hs ht
      split at h
      · rename_i e0 sz' n f ei hb hi
        split at h
        · rename_i z hz
          cases hg : (Nat.beq sz' sz && (Nat.beq (cellsX (constX z)).length sz && ((cellsX (constX z)).all SC.flat && (!isTup (constX z) && Nat.blt 0 sz)))) with
          | false => rw [hg] at h; exact h.elim
          | true =>
          rw [hg] at h
          simp only [Bool.and_eq_true, Bool.not_eq_true'] at hg
          obtain ⟨g1, g2, g3, g5, g6⟩ := hg
          obtain rfl := Nat.eq_of_beq_eq_true g1
          have g2 := Nat.eq_of_beq_eq_true g2
          have g6 : 0 < sz' := by simpa using g6
          have g4 : (cellsX (constX z)).all (·.lt 0) = true := constX_lt z 0
          obtain ⟨⟨_, hj⟩, hk⟩ := h
          have hj : lo + m ≤ n := by omega
          refine ⟨_, _, hk, fun β w df hI => ?_⟩
          have hL := hI.ls b e0 sz' n f hb
          have hca : c.args = #[s] := by cases hq : c.args with | mk l => rw [hq] at hargs; simp at hargs; rw [hargs]
          have hct : c.argTypes = #[t] := by cases hq : c.argTypes with | mk l => rw [hq] at htys; simp at htys; rw [htys]
          have hexec : ∀ (w' : World), (Builtin.clear_ #[t] o.type #[(SC.lsub b sz' lo m).den β]).run P w = .ok (.tuple #[]) w' → (execOp (Act.eval ⟨fr β ts, df⟩) o).run P w = .ok (.value ((SX.tup []).den β)) w' := fun w' hw => by
            have e1 : (SX.v (.c (.lsub b sz' lo m))).den β = (SC.lsub b sz' lo m).den β := rfl
            simp only [execOp, ho, resolve, hc, invoke, builtin, Sem.run_bind, Sem.run_pure, Result.andThen_ok, hca, hct, List.map_toArray, List.map_cons, List.map_nil, rd_den, hs, e1]
            simp only [hw, Result.andThen_ok]
            rfl
          have hzs : z.cells = ((cellsX (constX z)).map (·.den β)).toArray := by rw [← cells_den g5 g3 β, constX_den]
          rcases Nat.eq_zero_or_pos m with rfl | hm0
          · refine ⟨β, w, _, hexec w ?_, .inl rfl, ?_, Ext.refl _ _, rfl, by simp, fun _ _ _ => rfl⟩
            · have : ∃ a c2, (SC.lsub b sz' lo 0).den β = .slice a 0 c2 := by
                simp only [SC.den]; unfold subV; split <;> exact ⟨_, _, rfl⟩
              obtain ⟨a, c2, e⟩ := this
              rw [e]
              cases a <;> simp [Builtin.clear_, run_underlying ht]
            · have e2 : (fun j => bif Nat.ble lo j && Nat.blt j (lo + 0) then cellsX (constX z) else f j) = f := funext fun j => by
                cases h1 : Nat.ble lo j with
                | false => rfl
                | true =>
                  have h1 := Nat.le_of_ble_eq_true h1
                  have h2 : Nat.blt j (lo + 0) = false := by
                    cases h2 : Nat.blt j (lo + 0) with
                    | false => rfl
                    | true => have h2 : j < lo + 0 := by simpa using h2
                              omega
                  rw [h2]; rfl
              rw [e2]
              have e3 : M.set b (.lst e0 sz' n f) = M := List.ext_getElem? fun i => by
                by_cases hbi : b = i
                · subst hbi; rw [List.getElem?_set_self (get_lt hb), hb]
                · rw [List.getElem?_set_ne hbi]
              rw [e3]; exact hI
          · rcases hL.facts with ⟨_, e2⟩ | ⟨cap, cur, e1, _, h2, h3, h4, h5, he⟩
            · omega
            have hden : (SC.lsub b sz' lo m).den β = .slice (some ⟨β b, lo * sz', none⟩) m (cap - lo) := by
              simp only [SC.den]; unfold subV; rw [e1]
              rw [if_neg (by show ¬ lo = cap; omega)]
              simp only [Option.map_some, add_plain0]
            generalize hvs : ((List.replicate m ((cellsX (constX z)).map (·.den β))).flatten) = vs
            have hvl : vs.length = m * sz' := by rw [← hvs, flat_len]; simp [g2]
            have hcap : (lo + m) * sz' ≤ cap * sz' := Nat.mul_le_mul_right _ (by omega)
            rw [Nat.add_mul] at hcap
            have hone : ∀ v ∈ vs, v.oneCell' = true := fun v hv => by
              rw [← hvs] at hv
              obtain ⟨l, hl, hv⟩ := List.mem_flatten.1 hv
              rw [List.eq_of_mem_replicate hl] at hv
              obtain ⟨c, hc, rfl⟩ := List.mem_map.1 hv
              exact oneCell_of (List.all_eq_true.1 g3 c hc)
            have hst := run_storeCells_at P (β b) (lo * sz') e0 vs 0 cur w h2 (by omega) hone
            simp only [Nat.add_zero] at hst
            generalize hcur : (cur.toList.take (lo * sz') ++ vs ++ cur.toList.drop (lo * sz' + vs.length)).toArray = cur2 at hst
            have hsz2 : cur2.size = cur.size := by
              rw [← hcur]
              simp only [List.size_toArray, List.length_append, List.length_take, List.length_drop, Array.length_toList]
              omega
            have hlc : cur.toList.length = cap * sz' := by rw [Array.length_toList]; exact h5
            have hat : ∀ q, cur2.toList[q]? = if q < lo * sz' then cur.toList[q]? else if q < lo * sz' + vs.length then vs[q - lo * sz']? else cur.toList[q]? := fun q => by
              rw [← hcur]
              simp only []
              by_cases c1 : q < lo * sz'
              · rw [if_pos c1, List.append_assoc, List.getElem?_append_left (by rw [List.length_take]; omega), List.getElem?_take, if_pos c1]
              · rw [if_neg c1]
                by_cases c2 : q < lo * sz' + vs.length
                · rw [if_pos c2, List.append_assoc, List.getElem?_append_right (by rw [List.length_take]; omega), List.length_take, Nat.min_eq_left (by omega), List.getElem?_append_left (by omega)]
                · rw [if_neg c2, List.getElem?_append_right (by rw [List.length_append, List.length_take]; omega), List.length_append, List.length_take, Nat.min_eq_left (by omega), List.getElem?_drop]
                  congr 1; omega
            have hother : ∀ r, r ≠ β b → (w.setRow (β b) cur2).heap[r]? = w.heap[r]? := fun r hr => setRow_other w (β b) r cur2 hr
            have hreal : (β.v b).1.isSome = true := by rw [e1]; rfl
            generalize hF : (fun j => bif Nat.ble lo j && Nat.blt j (lo + m) then cellsX (constX z) else f j) = F
            have hset : ∀ {i2 : Nat} {a : Blk}, (M.set b (.lst e0 sz' n F))[i2]? = some a →
                (i2 = b ∧ a = .lst e0 sz' n F) ∨ (i2 ≠ b ∧ M[i2]? = some a) := fun {i2 a} hi2 => by
              by_cases hbi : b = i2
              · subst hbi
                rw [List.getElem?_set_self (get_lt hb)] at hi2
                cases hi2; exact .inl ⟨rfl, rfl⟩
              · rw [List.getElem?_set_ne hbi] at hi2; exact .inr ⟨fun e => hbi e.symm, hi2⟩
            have hne : ∀ {i2 : Nat} {a : Blk}, i2 ≠ b → M[i2]? = some a → a.real β i2 → β i2 ≠ β b := fun hn hm hr he2 => hn (hI.inj _ b _ _ hm hb hr hreal he2)
            have hI2 : Inv O w0 β (M.set b (.lst e0 sz' n F)) (w.setRow (β b) cur2) := by
              refine ⟨fun i2 e cs hi2 => ?_, fun i2 e sz n2 f2 hi2 => ?_, fun i2 j2 a c hi2 hj2 hr hs he2 => ?_, ⟨hI.fr.os, hI.fr.tape, hI.fr.output, ?_, fun r hr ho => ?_⟩, fun i2 a hi2 hr => ?_, fun i2 Q hi2 => ?_, fun i2 Q hi2 => ?_⟩
              rotate_right
              · rcases hset hi2 with ⟨_, e3⟩ | ⟨hn, hm⟩
                · cases e3
                · refine (hI.fz i2 Q hm).step (Nat.le_refl _) (by show w.heap.size ≤ (w.heap.modify _ _).size; rw [Array.size_modify]; exact Nat.le_refl _) fun r _ _ h3 => ⟨hother r fun e => h3 b _ hb hreal e.symm, fun j2 a hj2 hr => ?_⟩
                  rcases hset hj2 with ⟨rfl, rfl⟩ | ⟨_, hm2⟩
                  · exact h3 j2 _ hb hreal
                  · exact h3 j2 a hm2 hr
              rotate_right
              · rcases hset hi2 with ⟨_, e3⟩ | ⟨hn, hm⟩
                · cases e3
                · exact (hI.ab i2 Q hm).kept (hother _ (hne hn hm trivial))
              · rcases hset hi2 with ⟨_, e3⟩ | ⟨hn, hm⟩
                · cases e3
                · rw [hother _ (hne hn hm trivial)]; exact hI.at_ i2 e cs hm
              · rcases hset hi2 with ⟨rfl, e3⟩ | ⟨hn, hm⟩
                · cases e3
                  refine ⟨⟨cur2.toList.take (n * sz'), ⟨?_, .inr ⟨β i2, cap, cur2, by unfold Env.sv; rw [e1], Nat.zero_le _, setRow_heap w (β i2) cur cur2 e0 (0, 0) h2, h3, h4, by rw [hsz2, h5], rfl⟩⟩, fun j2 hj2 => ?_⟩, fun a ha => by rw [e1] at ha; cases ha; rfl⟩
                  · rw [List.length_take, Array.length_toList, hsz2, h5]
                    exact Nat.min_eq_left (Nat.mul_le_mul_right _ h3)
                  · obtain ⟨q1, q2, q3, q4⟩ := he j2 hj2
                    have hj2c : (j2 + 1) * sz' ≤ n * sz' := Nat.mul_le_mul_right _ hj2
                    rw [Nat.add_mul, Nat.one_mul] at hj2c
                    rw [← hF]
                    by_cases hjj : lo ≤ j2 ∧ j2 < lo + m
                    · have hb1 : (Nat.ble lo j2 && Nat.blt j2 (lo + m)) = true := by simp [hjj.1, hjj.2]
                      simp only [hb1, cond_true]
                      refine ⟨g2, g4, g3, fun m2 c hc => ?_⟩
                      have hm : m2 < sz' := by rw [← g2]; exact get_lt hc
                      have h6 : lo * sz' ≤ j2 * sz' := Nat.mul_le_mul_right _ hjj.1
                      have h7 : (j2 + 1) * sz' ≤ (lo + m) * sz' := Nat.mul_le_mul_right _ hjj.2
                      rw [Nat.add_mul, Nat.one_mul, Nat.add_mul] at h7
                      rw [List.getElem?_take, if_pos (by omega), hat, if_neg (by omega), if_pos (by omega), ← hvs]
                      have h8 : j2 * sz' + m2 - lo * sz' = (j2 - lo) * ((cellsX (constX z)).map (·.den β)).length + m2 := by
                        rw [List.length_map, g2, Nat.sub_mul]; omega
                      rw [h8, flat_at _ (by rw [List.length_map, g2]; exact g6) m (j2 - lo) m2 (by omega) (by rw [List.length_map, g2]; exact hm), List.getElem?_map, hc]
                      have : c.den β = c.den nob := (SC.den_nob (List.all_eq_true.1 g4 c (List.mem_of_getElem? hc)) β).symm
                      simp [this]
                    · have hb0 : (Nat.ble lo j2 && Nat.blt j2 (lo + m)) = false := by
                        cases hb0 : (Nat.ble lo j2 && Nat.blt j2 (lo + m)) with
                        | false => rfl
                        | true =>
                          simp only [Bool.and_eq_true] at hb0
                          exact absurd ⟨Nat.le_of_ble_eq_true hb0.1, by simpa using hb0.2⟩ hjj
                      simp only [hb0, cond_false]
                      refine ⟨q1, q2, q3, fun m2 c hc => ?_⟩
                      have hm : m2 < sz' := by rw [← q1]; exact get_lt hc
                      have := q4 m2 c hc
                      rw [List.getElem?_take, if_pos (by omega)] at this ⊢
                      rw [hat]
                      rcases Nat.lt_or_ge j2 lo with hlt | hge
                      · have h6 : (j2 + 1) * sz' ≤ lo * sz' := Nat.mul_le_mul_right _ hlt
                        rw [Nat.add_mul, Nat.one_mul] at h6
                        rw [if_pos (by omega)]; exact this
                      · have h6 : (lo + m) * sz' ≤ j2 * sz' := Nat.mul_le_mul_right _ (by omega)
                        rw [Nat.add_mul] at h6
                        rw [if_neg (by omega), if_neg (by omega)]; exact this
                · exact (hI.ls i2 e sz n2 f2 hm).kept rfl rfl (fun hr => hother _ (hne hn hm hr))
              · have hget : ∀ {i2 : Nat} {a : Blk}, (M.set b (.lst e0 sz' n F))[i2]? = some a → a.real β i2 → ∃ a0, M[i2]? = some a0 ∧ a0.real β i2 := fun {i2 a} hi2 hr => by
                  rcases hset hi2 with ⟨rfl, rfl⟩ | ⟨_, hm⟩
                  · exact ⟨_, hb, hreal⟩
                  · exact ⟨a, hm, hr⟩
                obtain ⟨a0, ha0, hr0⟩ := hget hi2 hr
                obtain ⟨c0, hc0, hs0⟩ := hget hj2 hs
                exact hI.inj i2 j2 a0 c0 ha0 hc0 hr0 hs0 he2
              · show w0.heap.size ≤ (w.heap.modify _ _).size
                rw [Array.size_modify]; exact hI.fr.size
              · rw [hother r (fun he2 => ?_)]
                · exact hI.fr.block r hr ho
                · rcases hI.low b _ hb hreal with h6 | h6
                  · omega
                  · rw [he2] at ho; exact ho h6
              · rcases hset hi2 with ⟨rfl, rfl⟩ | ⟨_, hm⟩
                · exact hI.low i2 _ hb hreal
                · exact hI.low i2 a hm hr
            refine ⟨β, _, _, hexec _ ?_, .inl rfl, hI2, Ext.refl _ _, rfl, by simp, fun r hrl hne => hother r (hne b _ (by unfold tgt; simp only [ho, hc, hargs, hs]; rfl) hb hreal)⟩
            rw [hden]
            have hzc : (Builtin.zeroCells z.cells m).toList = vs := by
              unfold Builtin.zeroCells
              rw [zeros_run z.cells m z.cells.size rfl, hzs, ← hvs]
            obtain ⟨m2, rfl⟩ : ∃ m2, m = m2 + 1 := ⟨m - 1, by omega⟩
            simp [Builtin.clear_, run_underlying ht, zeroValue, typeInfo, program, Sem.run, hi, hz, hzc, hst]
        · exact h.elim
      · exact h.elim
    · exact h.elim
  · exact h.elim
def enters (P : Program) (f : FuncId) : Bool :=
  match P.funcs[f]? with
  | some fn => fn.body.isSome && !(fn.name == "runtime.NumGoroutine")
  | none => false
theorem enters_run {P : Program} {f : FuncId} (h : enters P f = true) (args : Array Value) (w : World) : (callFunc f args).run P w = .ok (.enter f args) w := by
  unfold enters at h
  split at h
  · rename_i fn hf
    simp only [Bool.and_eq_true, Bool.not_eq_true'] at h
    have h2 : fn.body.isNone = false := by cases hb : fn.body <;> simp_all
    unfold callFunc
    simp only [Sem.run_bind, program, Sem.run, Result.andThen_ok, hf, h.2, Bool.false_eq_true, if_false, h2, Sem.run_pure]
  · cases h
def callX (P : Program) (H : Hd) (M : List Blk) (ts : List SX) (fv : SX) (args : List SX) (k : SX → List Blk → Prop) : Prop :=
  match fv with
  | .v (.c (.val (.func (.func f) first captured))) =>
    bif ts.all (·.lt M.length) && (memLt M.length M && (Nat.blt f GK && enters P f)) then H.call f (first.toList.map constX ++ args ++ captured.toList.map constX) M k else False
  | .v (.c (.clo f caps)) =>
    bif ts.all (·.lt M.length) && (memLt M.length M && (Nat.blt f GK && enters P f)) then H.call f (args ++ caps.map fun p => SX.one (.ptr p.1 p.2)) M k else False
  | _ => False
def evOp (P : Program) (O : Nat → Prop) (w0 : World) (H : Hd) (M : List Blk) (ts : List SX) (o : Oper) (k : SX → List Blk → Prop) : Prop :=
  match o.op with
  | .alloc _ => effOp P M ts o k
  | .box _ _ => effOp P M ts o k
  | .store _ _ _ => effOp P M ts o k
  | .buildSlice _ _ _ => effOp P M ts o k
  | .makeSlice _ _ _ => effOp P M ts o k
  | .makeMap _ _ => mapX P M ts o k
  | .mapUpdate _ _ _ _ => mapX P M ts o k
  | .call c =>
    (match c.callee with
    | .value f => callX P H M ts (rd ts f) (c.args.toList.map (rd ts)) k
    | .builtin .append => apX P O w0 M ts c k
    | .builtin .clear => clrX P M ts c k
    | _ => valOp P O w0 M ts o (fun x => k x M))
  | .load t (.global g) => H.call (GK + g) [] M (fun y _ => ldX P O w0 M t y (fun x => k x M))
  | _ => valOp P O w0 M ts o (fun x => k x M)
def putS (ts : List SX) (d : Option Tmp) (x : SX) : List SX :=
  match d with
  | some d => ts.set d x
  | none => ts
theorem fr_put (β : Env) (ts : List SX) (df : List Deferred) (d : Option Tmp) (x : SX) : Act.put ⟨fr β ts, df⟩ d (x.den β) = ⟨fr β (putS ts d x), df⟩ := by
  cases d with
  | none => rfl
  | some d => simp only [Act.put, putS, fr, List.map_set]; simp
theorem consts_den (β : Env) (l : List Value) : (l.map constX).map (·.den β) = l := by
  rw [List.map_map]
  have : ((fun x : SX => x.den β) ∘ constX) = id := funext (constX_den β)
  rw [this, List.map_id]
def isCallV : Op → Bool
  | .call c => match c.callee with
    | .value _ => true
    | _ => false
  | _ => false
/-- Is it a call that writes nothing that stood? -/
def pureCall (pu : FuncId → Bool) (ts : List SX) : Op → Bool
  | .call c => match c.callee with
    | .value x => (match rd ts x with
      | .v (.c (.val (.func (.func f) _ _))) => pu f
      | .v (.c (.clo f _)) => pu f
      | _ => false)
    | _ => false
  | _ => false
/-- Soundness of one operation, as the walk wants it. -/
theorem evOp_sound {P : Program} {O : Nat → Prop} {w0 : World} {H : Hd} (hH : HS P O w0 H) {M : List Blk} {ts : List SX} {o : Oper} {k : SX → List Blk → Prop} (h : evOp P O w0 H M ts o k)
    {β : Env} {w : World} (hI : Inv O w0 β M w) (df : List Deferred) {K : Act → World → Prop} {Q : Exit → Act → World → Prop}
    (hK : ∀ x M' β' w', k x M' → Inv O w0 β' M' w' → Grow M M' β β' → (isCallV o.op = false → Keeps β M ts o w w') → (pureCall H.pure ts o.op = true → Kept w w') → K ⟨fr β' (putS ts o.dst x), df⟩ w') : o.wp P ⟨fr β ts, df⟩ w K Q := by
  have hval : valOp P O w0 M ts o (fun x => k x M) → o.wp P ⟨fr β ts, df⟩ w K Q := fun h => by
    obtain ⟨x, hk, hg⟩ := valOp_sound h β w df hI
    unfold Oper.wp
    rw [hg, Oper.upon_value, fr_put]
    exact hK x M β w hk hI (Grow.refl _ _) (fun _ _ _ _ => rfl) (fun _ _ _ => rfl)
  have hnp : isCallV o.op = false → pureCall H.pure ts o.op = false := fun hc => by
    cases hop : o.op with
    | call c =>
      rw [hop] at hc
      unfold isCallV at hc
      unfold pureCall
      cases hcal : c.callee with
      | value f => simp [hcal] at hc
      | _ => simp only [hcal]
    | _ => rfl
  have hgood : isCallV o.op = false → (∃ x M', k x M' ∧ GoodE P O w0 M ts o x M') → o.wp P ⟨fr β ts, df⟩ w K Q := fun hcv h => by
    obtain ⟨x, M', hk, hg⟩ := h
    obtain ⟨β', w', nx, hr, hn, hI', hx, hf, hle, hkp⟩ := hg β w df hI
    unfold Oper.wp
    rw [hr]
    rcases hn with rfl | ⟨rfl, he⟩
    · rw [Oper.upon_value, ← hf, fr_put]
      exact hK x M' β' w' hk hI' ⟨hle, hx⟩ (fun _ => hkp) (fun h => by rw [hnp hcv] at h; cases h)
    · rw [Oper.upon_skip, ← hf, ← he, fr_put]
      exact hK x M' β' w' hk hI' ⟨hle, hx⟩ (fun _ => hkp) (fun h => by rw [hnp hcv] at h; cases h)
  have heff : isCallV o.op = false → effOp P M ts o k → o.wp P ⟨fr β ts, df⟩ w K Q := fun hcv h => hgood hcv (effOp_sound (O := O) (w0 := w0) h)
  unfold evOp at h
  split at h
  · rename_i ho; exact heff (by rw [ho]; rfl) h
  · rename_i ho; exact heff (by rw [ho]; rfl) h
  · rename_i ho; exact heff (by rw [ho]; rfl) h
  · rename_i ho; exact heff (by rw [ho]; rfl) h
  · rename_i ho; exact heff (by rw [ho]; rfl) h
  · rename_i ho; exact hgood (by rw [ho]; rfl) (mapX_sound h)
  · rename_i ho; exact hgood (by rw [ho]; rfl) (mapX_sound h)
  · rename_i c ho
    split at h
    · rename_i f hc
      unfold callX at h
      split at h
      · rename_i fid first captured hf
        cases hg : (ts.all (·.lt M.length) && (memLt M.length M && (Nat.blt fid GK && enters P fid))) with
        | false => rw [hg] at h; exact h.elim
        | true =>
          rw [hg] at h
          simp only [Bool.and_eq_true] at hg
          obtain ⟨hts, hmlt, hgk, hen⟩ := hg
          have hcall := hH.1 _ _ _ _ (by simpa using hgk) h hmlt β w hI
          unfold Oper.wp
          have hrun : (execOp (Act.eval ⟨fr β ts, df⟩) o).run P w = .ok (.enter fid (fr β (first.toList.map constX ++ c.args.toList.map (rd ts) ++ captured.toList.map constX))) w := by
            have hargs : fr β (first.toList.map constX ++ c.args.toList.map (rd ts) ++ captured.toList.map constX) = first ++ c.args.map (Act.eval ⟨fr β ts, df⟩) ++ captured := by
              unfold fr
              rw [List.map_append, List.map_append, consts_den, consts_den, List.map_map]
              apply Array.toList_inj.1
              have e : ((fun x : SX => x.den β) ∘ rd ts) = Act.eval ⟨fr β ts, df⟩ := (eval_eq β ts df).symm
              rw [e]
              simp only [Array.toList_append, Array.toList_map]
              rfl
            rw [hargs]
            simp only [execOp, ho, resolve, hc, Sem.run_bind, Deferred.ofValue, rd_den, hf]
            show ((invoke (.fn (.func fid) captured) (first ++ c.args.map (Act.eval ⟨fr β ts, df⟩))).run P w) = _
            exact enters_run hen _ w
          rw [hrun, Oper.upon_enter]
          refine hcall.mono ?_
          rintro e w' ⟨x, M', β', hk, rfl, hI', hg, hpu⟩
          show K (Act.put ⟨fr β ts, df⟩ o.dst (x.den β')) w'
          rw [← fr_ext hg.ext hts, fr_put]
          exact hK x M' β' w' hk hI' hg (fun hcv => absurd hcv (by simp [isCallV, ho, hc])) (fun hp => hpu (by unfold pureCall at hp; simp only [ho, hc, hf] at hp; exact hp))
      · rename_i fid caps hf
        cases hg : (ts.all (·.lt M.length) && (memLt M.length M && (Nat.blt fid GK && enters P fid))) with
        | false => rw [hg] at h; exact h.elim
        | true =>
          rw [hg] at h
          simp only [Bool.and_eq_true] at hg
          obtain ⟨hts, hmlt, hgk, hen⟩ := hg
          have hcall := hH.1 _ _ _ _ (by simpa using hgk) h hmlt β w hI
          unfold Oper.wp
          have hrun : (execOp (Act.eval ⟨fr β ts, df⟩) o).run P w = .ok (.enter fid (fr β (c.args.toList.map (rd ts) ++ caps.map fun p => SX.one (.ptr p.1 p.2)))) w := by
            have hargs : fr β (c.args.toList.map (rd ts) ++ caps.map fun p => SX.one (.ptr p.1 p.2)) = #[] ++ c.args.map (Act.eval ⟨fr β ts, df⟩) ++ (caps.map fun p => Value.pointer (some ⟨β p.1, p.2, none⟩)).toArray := by
              unfold fr
              rw [List.map_append, List.map_map, List.map_map]
              apply Array.toList_inj.1
              have e : ((fun x : SX => x.den β) ∘ rd ts) = Act.eval ⟨fr β ts, df⟩ := (eval_eq β ts df).symm
              rw [e]
              simp only [Array.toList_append, Array.toList_map]
              rfl
            rw [hargs]
            simp only [execOp, ho, resolve, hc, Sem.run_bind, Deferred.ofValue, rd_den, hf]
            exact enters_run hen _ w
          rw [hrun, Oper.upon_enter]
          refine hcall.mono ?_
          rintro e w' ⟨x, M', β', hk, rfl, hI', hg, hpu⟩
          show K (Act.put ⟨fr β ts, df⟩ o.dst (x.den β')) w'
          rw [← fr_ext hg.ext hts, fr_put]
          exact hK x M' β' w' hk hI' hg (fun hcv => absurd hcv (by simp [isCallV, ho, hc])) (fun hp => hpu (by unfold pureCall at hp; simp only [ho, hc, hf] at hp; exact hp))
      · exact h.elim
    · rename_i hc
      obtain ⟨x, M', β', w', hk, hrun, hI', hx, hf, hle, hkp⟩ := apX_sound ho hc h β w df hI
      unfold Oper.wp
      rw [hrun, Oper.upon_value, ← hf, fr_put]
      exact hK x M' β' w' hk hI' ⟨hle, hx⟩ (fun _ => hkp) (fun h => by rw [hnp (by simp [isCallV, ho, hc])] at h; cases h)
    · rename_i hc; exact hgood (by simp [isCallV, ho, hc]) (clrX_sound ho hc h)
    · exact hval h
  · rename_i t g ho
    obtain ⟨y, hy, h⟩ := hH.2 _ _ _ h
    obtain ⟨x, hk, hx⟩ := ldX_sound h
    have hr := hx β w hI
    rw [hy β] at hr
    unfold Oper.wp
    have hrun : (execOp (Act.eval ⟨fr β ts, df⟩) o).run P w = .ok (.value (x.den β)) w := by
      simp only [execOp, ho, Act.eval, Sem.run_bind]
      rw [hr]
      simp only [Result.andThen_ok, Sem.run_pure]
    rw [hrun, Oper.upon_value, fr_put]
    exact hK x M β w hk hI (Grow.refl _ _) (fun _ _ _ _ => rfl) (fun _ _ _ => rfl)
  · exact hval h
/-! ### to have what is reckoned reckoned once -/
def fcV (v : Value) (k : Value → Prop) : Prop :=
  match v with
  | .bool b => k (.bool b)
  | .int a n => k (.int a n)
  | .string s => k (.string s)
  | .pointer a => k (.pointer a)
  | .slice a n c => k (.slice a n c)
  | .tuple vs => k (.tuple vs)
  | v => k v
theorem fcV_eq (v : Value) (k : Value → Prop) : fcV v k = k v := by cases v <;> rfl
def fcN (n : Nat) (k : Nat → Prop) : Prop :=
  match n with
  | 0 => k 0
  | n + 1 => k (n + 1)
def fcC (x : SC) (k : SC → Prop) : Prop :=
  match x with
  | .val v => fcV v (fun v => k (.val v))
  | .ptr b off => k (.ptr b off)
  | .sl b off len cap => k (.sl b off len cap)
  | .row A sz at_ j off => k (.row A sz at_ j off)
  | .rsl A sz at_ lo len cap => k (.rsl A sz at_ lo len cap)
  | .clo f caps => k (.clo f caps)
  | .opq v => k (.opq v)
  | .lst b => k (.lst b)
  | .lsub b sz lo n => k (.lsub b sz lo n)
  | .ep b sz j off => k (.ep b sz j off)
  | .mpv b => k (.mpv b)
theorem fcC_eq (x : SC) (k : SC → Prop) : fcC x k = k x := by
  cases x with
  | val v => show fcV v (fun v => k (.val v)) = _; rw [fcV_eq]
  | _ => rfl
def fcL {α : Type} (f : α → (α → Prop) → Prop) : List α → (List α → Prop) → Prop
  | [], k => k []
  | x :: xs, k => f x (fun x => fcL f xs (fun xs => k (x :: xs)))
theorem fcL_eq {α : Type} {f : α → (α → Prop) → Prop} (hf : ∀ x k, f x k = k x) : ∀ (l : List α) (k : List α → Prop), fcL f l k = k l
  | [], _ => rfl
  | x :: xs, k => by unfold fcL; rw [hf, fcL_eq hf xs]
def fcS (x : SV) (k : SV → Prop) : Prop :=
  match x with
  | .c x => fcC x (fun x => k (.c x))
  | .agg cs => fcL fcC cs (fun cs => k (.agg cs))
theorem fcS_eq (x : SV) (k : SV → Prop) : fcS x k = k x := by
  cases x with
  | c x => show fcC x (fun x => k (.c x)) = _; rw [fcC_eq]
  | agg cs => show fcL fcC cs (fun cs => k (.agg cs)) = _; rw [fcL_eq fcC_eq]
def fcX (x : SX) (k : SX → Prop) : Prop :=
  match x with
  | .v x => fcS x (fun x => k (.v x))
  | .tup vs => fcL fcS vs (fun vs => k (.tup vs))
theorem fcX_eq (x : SX) (k : SX → Prop) : fcX x k = k x := by
  cases x with
  | v x => show fcS x (fun x => k (.v x)) = _; rw [fcS_eq]
  | tup vs => show fcL fcS vs (fun vs => k (.tup vs)) = _; rw [fcL_eq fcS_eq]
def fcB (b : Blk) (k : Blk → Prop) : Prop :=
  match b with
  | .mk e cs => fcL fcC cs (fun cs => k (.mk e cs))
  | .lst e sz n f => k (.lst e sz n f)
  | .dead => k .dead
  | .ab Q => k (.ab Q)
  | .fz Q => k (.fz Q)
theorem fcB_eq (b : Blk) (k : Blk → Prop) : fcB b k = k b := by
  cases b with
  | mk e cs => show fcL fcC cs (fun cs => k (.mk e cs)) = _; rw [fcL_eq fcC_eq]
  | _ => rfl
def setK (x : SX) : List SX → Nat → (List SX → Prop) → Prop
  | [], _, k => k []
  | _ :: ys, 0, k => k (x :: ys)
  | y :: ys, n + 1, k => setK x ys n (fun r => k (y :: r))
theorem setK_eq (x : SX) : ∀ (ts : List SX) (n : Nat) (k : List SX → Prop), setK x ts n k = k (ts.set n x)
  | [], _, _ => rfl
  | _ :: _, 0, _ => rfl
  | y :: ys, n + 1, k => by unfold setK; rw [setK_eq x ys n]; rfl
def putK (ts : List SX) (d : Option Tmp) (x : SX) (k : List SX → Prop) : Prop :=
  match d with
  | some d => setK x ts d k
  | none => k ts
theorem putK_eq (ts : List SX) (d : Option Tmp) (x : SX) (k : List SX → Prop) : putK ts d x k = k (putS ts d x) := by
  cases d with
  | none => rfl
  | some d => exact setK_eq x ts d k
/-! ### a region in the text's order -/
def boolX (b : Bool) : SX := SX.one (.val (.bool b))
/-- What a guard asks: part on the Bool, and write down in its slot what it is. -/
def guardX (ops : List Oper) (ts : List SX) (g : Option (Nat × Bool)) (exec skip : List SX → Prop) : Prop :=
  match g with
  | none => exec ts
  | some (j, want) =>
    (match (ops[j]?).bind (·.dst) with
    | some d =>
      (match ts[d]? with
      | some (.v (.c (.val (.bool b)))) => bif b then setK (boolX true) ts d (bif want then exec else skip) else setK (boolX false) ts d (bif want then skip else exec)
      | some (.v (.c (.val (.tuple _)))) => skip ts
      | _ => False)
    | none => False)
theorem fr_get (β : Env) (ts : List SX) (d : Nat) : (fr β ts)[d]? = (ts[d]?).map (·.den β) := by
  unfold fr; rw [List.getElem?_toArray, List.getElem?_map]
theorem fr_same (β : Env) (ts : List SX) (d : Nat) (x : SX) (h : ∃ y, ts[d]? = some y ∧ y.den β = x.den β) : fr β (ts.set d x) = fr β ts := by
  obtain ⟨y, hy, e⟩ := h
  unfold fr
  congr 1
  rw [List.map_set, ← e]
  have : (ts.map (·.den β))[d]? = some (y.den β) := by rw [List.getElem?_map, hy]; rfl
  obtain ⟨hd, e2⟩ := List.getElem?_eq_some_iff.1 this
  rw [← e2, List.set_getElem_self]
theorem guardX_sound {ops : List Oper} {ts : List SX} {o : Oper} {exec skip : List SX → Prop} (h : guardX ops ts o.guard exec skip) :
    ∃ ts', (∀ β, fr β ts' = fr β ts) ∧ (((∀ β, Region.wanted o (yielded ops.toArray (fr β ts)) = true) ∧ exec ts') ∨ ((∀ β, Region.wanted o (yielded ops.toArray (fr β ts)) = false) ∧ skip ts')) := by
  unfold guardX at h
  split at h
  · rename_i hg
    exact ⟨ts, fun _ => rfl, .inl ⟨fun β => by simp [Region.wanted, hg], h⟩⟩
  · rename_i j want hg
    split at h
    · rename_i d hd
      have hy : ∀ β, yielded ops.toArray (fr β ts) j = (match (ts[d]?).map (·.den β) with | some (.bool b) => some b | _ => none) := fun β => by
        unfold yielded
        rw [List.getElem?_toArray, hd]
        simp only [Option.bind_some, fr_get]
        rfl
      split at h
      · rename_i b hb
        have hw : ∀ β, Region.wanted o (yielded ops.toArray (fr β ts)) = (b == want) := fun β => by
          unfold Region.wanted
          rw [hg]
          simp only [hy β, hb]
          show (some b == some want) = _
          rfl
        have hs : ∀ β, fr β (ts.set d (boolX b)) = fr β ts := fun β => fr_same β ts d _ ⟨_, hb, rfl⟩
        refine ⟨ts.set d (boolX b), hs, ?_⟩
        cases b <;> simp only [cond_true, cond_false, setK_eq] at h <;> cases want <;> first | exact .inl ⟨hw, h⟩ | exact .inr ⟨hw, h⟩
      · rename_i vs hb
        refine ⟨ts, fun _ => rfl, .inr ⟨fun β => ?_, h⟩⟩
        unfold Region.wanted
        rw [hg]
        simp only [hy β, hb]
        rfl
      · exact h.elim
    · exact h.elim
def evOps (P : Program) (O : Nat → Prop) (w0 : World) (H : Hd) (ops : List Oper) : List Oper → List Blk → List SX → (List Blk → List SX → Prop) → Prop
  | [], M, ts, k => k M ts
  | o :: rest, M, ts, k => guardX ops ts o.guard (fun ts => evOp P O w0 H M ts o (fun x M' => fcX x fun x => putK ts o.dst x fun ts => evOps P O w0 H ops rest M' ts k)) (fun ts => putK ts o.dst undefX fun ts => evOps P O w0 H ops rest M ts k)
theorem evOps_sound {P : Program} {O : Nat → Prop} {w0 : World} {H : Hd} (hH : HS P O w0 H) {ops : List Oper} {Q : Exit → Act → World → Prop} (df : List Deferred) : ∀ (rest : List Oper) (M : List Blk) (ts : List SX) (k : List Blk → List SX → Prop),
    evOps P O w0 H ops rest M ts k → ∀ (β : Env) (w : World), Inv O w0 β M w → (∀ M' ts' β' w', k M' ts' → Inv O w0 β' M' w' → Grow M M' β β' → Q .normal ⟨fr β' ts', df⟩ w') → wpList P ops.toArray Q rest ⟨fr β ts, df⟩ w
  | [], M, ts, k, h, β, w, hI, hQ => hQ M ts β w h hI (Grow.refl _ _)
  | o :: rest, M, ts, k, h, β, w, hI, hQ => by
    obtain ⟨ts', hf, hc⟩ := guardX_sound h
    rw [← hf β]
    unfold wpList
    rcases hc with ⟨hw, hx⟩ | ⟨hw, hx⟩
    · rw [if_pos (by rw [hf β]; exact hw β)]
      refine .inl (evOp_sound hH hx hI df fun x M' β' w' hk hI' hg hkp _ => ?_)
      rw [fcX_eq, putK_eq] at hk
      exact evOps_sound hH df rest M' _ k hk β' w' hI' fun M2 ts2 β2 w2 h1 h2 h3 => hQ M2 ts2 β2 w2 h1 h2 (hg.trans h3)
    · rw [if_neg (by rw [hf β, hw β]; decide)]
      have e : Act.put ⟨fr β ts', df⟩ o.dst undef = ⟨fr β (putS ts' o.dst undefX), df⟩ := fr_put β ts' df o.dst undefX
      rw [e]
      rw [putK_eq] at hx
      exact evOps_sound hH df rest M _ k hx β w hI hQ
/-! ### a region that draws and only reads -/
def evVals (P : Program) (O : Nat → Prop) (w0 : World) (ops : List Oper) (M : List Blk) : List Oper → List SX → (List SX → Prop) → Prop
  | [], ts, k => k ts
  | o :: rest, ts, k => guardX ops ts o.guard (fun ts => valOp P O w0 M ts o (fun x => fcX x fun x => putK ts o.dst x fun ts => evVals P O w0 ops M rest ts k)) (fun ts => putK ts o.dst undefX fun ts => evVals P O w0 ops M rest ts k)
theorem evVals_sound {P : Program} {O : Nat → Prop} {w0 : World} {ops : List Oper} {M : List Blk} (df : List Deferred) {β : Env} {w : World} (hI : Inv O w0 β M w) {q : Act → Prop} : ∀ (rest : List Oper) (ts : List SX) (k : List SX → Prop),
    evVals P O w0 ops M rest ts k → (∀ ts', k ts' → q ⟨fr β ts', df⟩) → wpStill P ops.toArray w q rest ⟨fr β ts, df⟩
  | [], ts, k, h, hQ => hQ ts h
  | o :: rest, ts, k, h, hQ => by
    obtain ⟨ts', hf, hc⟩ := guardX_sound h
    rw [← hf β]
    unfold wpStill
    rcases hc with ⟨hw, hx⟩ | ⟨hw, hx⟩
    · rw [if_pos (by rw [hf β]; exact hw β)]
      obtain ⟨x, hk, hg⟩ := valOp_sound hx β w df hI
      rw [fcX_eq, putK_eq] at hk
      unfold Oper.still
      rw [hg, Oper.stillUpon_value, fr_put]
      exact evVals_sound df hI rest _ k hk hQ
    · rw [if_neg (by rw [hf β, hw β]; decide)]
      have e : Act.put ⟨fr β ts', df⟩ o.dst undef = ⟨fr β (putS ts' o.dst undefX), df⟩ := fr_put β ts' df o.dst undefX
      rw [e]
      rw [putK_eq] at hx
      exact evVals_sound df hI rest _ k hx hQ
/-! ### a region that draws: every order, what is the same in every world taken first -/
def quietKind : Op → Bool
  | .move _ => true
  | .fieldAddr _ _ _ => true
  | .binOp _ _ _ _ _ => true
  | .unOp _ _ _ => true
  | .convert _ _ _ => true
  | .extract _ _ => true
  | .field _ _ _ => true
  | .nilCheck _ => true
  | .indexAddr _ _ _ => true
  | .build _ _ => true
  | .index _ _ _ => true
  | _ => false
def evYield (P : Program) (M : List Blk) (ts : List SX) (o : Oper) (k : SX → Prop) : Prop :=
  match o.op with
  | .move x => k (rd ts x)
  | .fieldAddr s x f => faX P s (rd ts x) f k
  | .field t x f => fieldX P t (rd ts x) f k
  | .extract x i => extX (rd ts x) i k
  | .nilCheck x => nilX P ts o (rd ts x) k
  | .indexAddr t x i => ixX P M t (rd ts x) (rd ts i) k
  | .index t x i => ivX P t (rd ts x) (rd ts i) k
  | .build t ps => buildX P t (ps.toList.map fun p => (p.1, rd ts p.2)) k
  | .binOp .add _ x y _ => (match rd ts x, rd ts y with
    | .v (.c (.val (.string a))), .v (.c (.val (.string b))) => Cat a.size b.size ∧ k (SX.one (.val (.string (a ++ b))))
    | _, _ => pureOp P ts o k)
  | _ => pureOp P ts o k
theorem evYield_sound {P : Program} {M : List Blk} {ts : List SX} {o : Oper} {k : SX → Prop} (h : evYield P M ts o k) : ∃ x, k x ∧ ∀ (β : Env) (w : World) (df : List Deferred), LFacts β M → (execOp (Act.eval ⟨fr β ts, df⟩) o).run P w = .ok (.value (x.den β)) w := by
  have hpure : pureOp P ts o k → ∃ x, k x ∧ ∀ (β : Env) (w : World) (df : List Deferred), LFacts β M → (execOp (Act.eval ⟨fr β ts, df⟩) o).run P w = .ok (.value (x.den β)) w := fun h => by
    unfold pureOp at h
    cases hs : isSel o.op with
    | true => rw [hs] at h; exact h.elim
    | false =>
      rw [hs] at h
      simp only [cond_false] at h
      cases ha : o.op.operands.toList.all (fun x => (rd ts x).lt 0) with
      | false => rw [ha] at h; exact h.elim
      | true =>
        rw [ha] at h
        simp only [cond_true] at h
        split at h
        · rename_i v hv
          refine ⟨_, h, fun β w df hF => ?_⟩
          rw [constX_den, eval_eq]
          have hc : execOp (fun x => (rd ts x).den β) o = execOp (fun x => (rd ts x).den nob) o := by
            refine execOp_congr o (fun cs b e => ?_) (fun x hx => ?_)
            · rw [e] at hs; cases hs
            · exact (den_nob (List.all_eq_true.1 ha x (by simpa using hx)) β).symm
          rw [hc]
          exact purS_run hv w
        · exact h.elim
  unfold evYield at h
  split at h
  · rename_i x ho
    exact ⟨_, h, fun β w df _ => by simp only [execOp, ho, rd_den, Sem.run_pure]⟩
  · rename_i s x f ho
    obtain ⟨y, hk, hy⟩ := faX_sound h
    refine ⟨y, hk, fun β w df hF => ?_⟩
    simp only [execOp, ho, rd_den, Sem.run_bind, hy β w, Result.andThen_ok, Sem.run_pure]
  · rename_i t x f ho
    obtain ⟨y, hk, hy⟩ := fieldX_sound h
    refine ⟨y, hk, fun β w df hF => ?_⟩
    simp only [execOp, ho, rd_den, Sem.run_bind, hy β w, Result.andThen_ok, Sem.run_pure]
  · rename_i x i ho
    unfold extX at h
    split at h
    · rename_i vs hx
      split at h
      · rename_i y hy
        refine ⟨_, h, fun β w df hF => ?_⟩
        simp only [execOp, ho, rd_den, hx, Sem.run_bind, Instr.extract, SX.den]
        simp [hy]
      · exact h.elim
    · exact h.elim
  · rename_i x ho
    unfold nilX at h
    split at h
    · rename_i b off hx
      refine ⟨_, h, fun β w df hF => ?_⟩
      simp only [execOp, ho, rd_den, hx, SX.one, SX.den, SV.den, SC.den, Sem.run_pure]
    · rename_i A sz at_ j off hx
      obtain ⟨hs, h⟩ := h
      refine ⟨_, h, fun β w df hF => ?_⟩
      obtain ⟨a, rfl⟩ := Option.isSome_iff_exists.1 hs
      simp only [execOp, ho, rd_den, hx, SX.one, SX.den, SV.den, SC.den, Option.map_some, Sem.run_pure]
    · rename_i b sz j off hx
      refine ⟨_, h, fun β w df hF => ?_⟩
      simp only [execOp, ho, rd_den, hx, SX.one, SX.den, SV.den, SC.den, elemV, Sem.run_pure]
    · exact hpure h
  · rename_i t x i ho
    obtain ⟨y, hk, hy⟩ := ixX_sound h
    refine ⟨y, hk, fun β w df hF => ?_⟩
    simp only [execOp, ho, rd_den, Sem.run_bind, hy β w hF, Result.andThen_ok, Sem.run_pure]
  · rename_i t x i ho
    obtain ⟨y, hk, hy⟩ := ivX_sound h
    refine ⟨y, hk, fun β w df hF => ?_⟩
    simp only [execOp, ho, rd_den, Sem.run_bind, hy β w, Result.andThen_ok, Sem.run_pure]
  · rename_i t ps ho
    obtain ⟨y, hk, hy⟩ := buildX_sound h
    refine ⟨y, hk, fun β w df hF => ?_⟩
    have := hy β w (ps.map fun p => (p.1, Act.eval ⟨fr β ts, df⟩ p.2)) (by
      rw [Array.toList_map, List.map_map]
      refine List.map_congr_left fun p _ => ?_
      show (p.1, Act.eval ⟨fr β ts, df⟩ p.2) = (p.1, (rd ts p.2).den β)
      rw [rd_den])
    simp only [execOp, ho, Sem.run_bind]
    rw [this]
    rfl
  · rename_i ty x y u ho
    split at h
    · rename_i a b hx hy
      obtain ⟨⟨hs⟩, hk⟩ := h
      refine ⟨_, hk, fun β w df _ => ?_⟩
      simp only [execOp, ho, rd_den, hx, hy, Sem.run_bind]
      have e1 : (SX.v (.c (.val (.string a)))).den β = .string a := rfl
      have e2 : (SX.v (.c (.val (.string b)))).den β = .string b := rfl
      have e3 : (SX.one (.val (.string (a ++ b)))).den β = .string (a ++ b) := rfl
      rw [e1, e2, e3]
      simp only [eqGuard]
      simp [binOp, Op.stringOp]
      omega
    · exact hpure h
  · exact hpure h
/-- Where the address of an operation comes from: its block, as far as it is seen before the region runs. -/
def baseOf (ops : List Oper) (ts : List SX) : Nat → Operand → Option Nat
  | 0, _ => none
  | n + 1, .tmp t =>
    (match ops.find? (fun o => match o.dst with
      | some d => Nat.beq d t
      | none => false) with
    | some o => (match o.op with
      | .fieldAddr _ x _ => baseOf ops ts n x
      | .indexAddr _ x _ => baseOf ops ts n x
      | .nilCheck x => baseOf ops ts n x
      | .move x => baseOf ops ts n x
      | _ => none)
    | none => (match ts.getD t undefX with
      | .v (.c (.ptr b _)) => some b
      | .v (.c (.sl b _ _ _)) => some b
      | _ => none))
  | _, _ => none
def isMk (M : List Blk) (b : Nat) : Bool :=
  match M[b]? with
  | some (.mk _ _) => true
  | _ => false
theorem isMk_of {M : List Blk} {b : Nat} (h : isMk M b = true) : ∃ e cs, M[b]? = some (.mk e cs) := by
  unfold isMk at h
  split at h
  · rename_i e cs hb; exact ⟨e, cs, hb⟩
  · cases h
def written (pu : FuncId → Bool) (ops : List Oper) (ts : List SX) : List Oper → Option (List Nat)
  | [] => some []
  | o :: r => (match o.op with
    | .store _ a _ => (match baseOf ops ts 20 a, written pu ops ts r with
      | some b, some l => some (b :: l)
      | _, _ => none)
    | .call c => (match c.callee, c.args.toList with
      | .value x, _ => (match x with
        | .func f => bif pu f then written pu ops ts r else none
        | _ => none)
      | .builtin .append, a :: _ => (match baseOf ops ts 20 a with
        | some b => (written pu ops ts r).map (b :: ·)
        | none => written pu ops ts r)
      | _, _ => written pu ops ts r)
    | _ => written pu ops ts r)
/-- Does the region append to a slice that it loads first? -/
def unkApp (ops : List Oper) (ts : List SX) : Bool :=
  ops.any fun o => match o.op with
    | .call c => (match c.callee, c.args.toList with
      | .builtin .append, a :: _ => (baseOf ops ts 20 a).isNone
      | _, _ => false)
    | _ => false
/-- Does a cell of the memory hold a slice of the block? -/
def slIn (M : List Blk) (b : Nat) : Bool :=
  M.any fun k => k.cells.any fun c => match c with
    | .sl b' _ _ _ => Nat.beq b' b
    | _ => false
/-- The blocks that no store of the region hits. -/
def calmB (pu : FuncId → Bool) (ops : List Oper) (M : List Blk) (ts : List SX) : List Nat :=
  match written pu ops ts ops with
  | some l => (List.range M.length).filter fun b => isMk M b && (!(l.any fun c => Nat.beq c b) && !(unkApp ops ts && slIn M b))
  | none => []
def calmLd (B : List Nat) (x : SX) : Bool :=
  match x with
  | .v (.c (.ptr b _)) => B.any fun c => Nat.beq c b
  | .v (.c (.row ..)) => true
  | _ => false
/-- Is it known whether the operation is wanted (D: the guards that are decided)? -/
def decided (D : List Nat) (o : Oper) : Bool :=
  match o.guard with
  | none => true
  | some (j, _) => D.any fun c => Nat.beq c j
def unwanted (ops : List Oper) (ts : List SX) (o : Oper) : Bool :=
  match o.guard with
  | none => false
  | some (j, w) => (match (ops[j]?).bind (·.dst) with
    | some d => (match ts[d]? with
      | some (.v (.c (.val (.bool b)))) => bif w then !b else b
      | some (.v (.c (.val (.tuple _)))) => true
      | _ => false)
    | none => false)
/-- To part on the guard of an operation that may come up. -/
def preG (ops : List Oper) (D : List Nat) (ts : List SX) (r : Option Nat) (k : List Nat → List SX → Prop) : Prop :=
  match r with
  | none => k D ts
  | some r => (match (ops[r]?).bind (·.guard) with
    | none => k D ts
    | some (j, _) => (match (ops[j]?).bind (·.dst) with
      | some d => (match ts[d]? with
        | some (.v (.c (.val (.bool b)))) => bif b then setK (boolX true) ts d (k (j :: D)) else setK (boolX false) ts d (k (j :: D))
        | some (.v (.c (.val (.tuple _)))) => k (j :: D) ts
        | _ => k D ts)
      | none => k D ts))
theorem preG_sound {ops : List Oper} {D : List Nat} {ts : List SX} {r : Option Nat} {k : List Nat → List SX → Prop} (h : preG ops D ts r k) : ∃ D' ts', (∀ β, fr β ts' = fr β ts) ∧ k D' ts' := by
  unfold preG at h
  split at h
  · exact ⟨_, _, fun _ => rfl, h⟩
  · split at h
    · exact ⟨_, _, fun _ => rfl, h⟩
    · split at h
      · rename_i d _
        split at h
        · rename_i b hb
          cases b with
          | true => rw [cond_true, setK_eq] at h; exact ⟨_, _, fun β => fr_same β ts d _ ⟨_, hb, rfl⟩, h⟩
          | false => rw [cond_false, setK_eq] at h; exact ⟨_, _, fun β => fr_same β ts d _ ⟨_, hb, rfl⟩, h⟩
        · exact ⟨_, _, fun _ => rfl, h⟩
        · exact ⟨_, _, fun _ => rfl, h⟩
      · exact ⟨_, _, fun _ => rfl, h⟩
def open1 (ops : List Oper) (D : List Nat) (rs : List Nat) : Option Nat :=
  rs.find? fun i => match ops[i]? with
    | some o => !(decided D o)
    | none => false
/-- The first of those that may come up now which is the same in every world of the region and may be taken first. -/
def pick1 (ops : List Oper) (B D : List Nat) (ts : List SX) (listed : Array Bool) (rs : List Nat) : Option Nat :=
  rs.find? fun i => match ops[i]? with
    | some o => decided D o && ((unwanted ops ts o || (quietKind o.op || (match o.op with
      | .load _ x => calmLd B (rd ts x)
      | _ => false))) && Region.free .any ops.toArray listed i)
    | none => false
/-- May this operation be carried out while the blocks of B are to stay? -/
def calmOp (pu : FuncId → Bool) (B : List Nat) (M : List Blk) (ts : List SX) (o : Oper) : Bool :=
  (match tgt ts o with
  | some b => !(B.any fun c => Nat.beq c b)
  | none => true) && (B.all (isMk M) && (B.isEmpty || (!(isCallV o.op) || pureCall pu ts o.op)))
def evFirst (P : Program) (O : Nat → Prop) (w0 : World) (B : List Nat) (M : List Blk) (ts : List SX) (o : Oper) (k : SX → Prop) : Prop :=
  match o.op with
  | .load t x => (bif calmLd B (rd ts x) then ldX P O w0 M t (rd ts x) k else False)
  | _ => evYield P M ts o k
abbrev Cont := List Nat → Array Bool → List Blk → List SX → (List Blk → List SX → Prop) → Prop
def evAll (P : Program) (O : Nat → Prop) (w0 : World) (H : Hd) (ops : List Oper) (B D : List Nat) (E : Cont) (listed : Array Bool) (M : List Blk) (ts : List SX) (k : List Blk → List SX → Prop) (i : Nat) : Prop :=
  match ops[i]? with
  | some o => guardX ops ts o.guard (fun ts => bif calmOp H.pure B M ts o then evOp P O w0 H M ts o (fun x M' => fcX x fun x => putK ts o.dst x fun ts => E D (listed.setIfInBounds i true) M' ts k) else False) (fun ts => putK ts o.dst undefX fun ts => E D (listed.setIfInBounds i true) M ts k)
  | none => False
def evAny (P : Program) (O : Nat → Prop) (w0 : World) (H : Hd) (ops : List Oper) (B : List Nat) : Nat → Cont
  | 0, _, listed, M, ts, k => (bif (Region.ready .any ops.toArray listed).isEmpty then k M ts else False)
  | n + 1, D, listed, M, ts, k =>
    (match Region.ready .any ops.toArray listed with
    | [] => k M ts
    | r :: rs => preG ops D ts (open1 ops D (r :: rs)) (fun D ts =>
      (match pick1 ops B D ts listed (r :: rs) with
      | some i => (match ops[i]? with
        | some o => guardX ops ts o.guard (fun ts => evFirst P O w0 B M ts o (fun x => fcX x fun x => putK ts o.dst x fun ts => evAny P O w0 H ops B n D (listed.setIfInBounds i true) M ts k)) (fun ts => putK ts o.dst undefX fun ts => evAny P O w0 H ops B n D (listed.setIfInBounds i true) M ts k)
        | none => False)
      | none => (match rs with
        | [] => evAll P O w0 H ops B D (evAny P O w0 H ops B n) listed M ts k r
        | _ => (r :: rs).foldr (fun i p => evAll P O w0 H ops B D (evAny P O w0 H ops B n) listed M ts k i ∧ p) True))))
theorem foldr_and {α : Type} {f : α → Prop} : ∀ {l : List α}, l.foldr (fun i p => f i ∧ p) True → ∀ i ∈ l, f i
  | [], _, i, hi => by cases hi
  | a :: l, h, i, hi => by
    rcases List.mem_cons.1 hi with rfl | hi
    · exact h.1
    · exact foldr_and h.2 i hi
def Calm (O : Nat → Prop) (w0 : World) (B : List Nat) (β0 : Env) (w1 w : World) : Prop := Fr O w0 w ∧ ∀ b, b ∈ B → w.heap[β0 b]? = w1.heap[β0 b]?
theorem any_mem {B : List Nat} {b : Nat} (h : (B.any fun c => Nat.beq c b) = true) : b ∈ B := by
  obtain ⟨c, hc, e⟩ := List.any_eq_true.1 h
  rw [← Nat.eq_of_beq_eq_true e]; exact hc
theorem evFirst_sound {P : Program} {O : Nat → Prop} {w0 : World} {B : List Nat} {M : List Blk} {ts : List SX} {o : Oper} {k : SX → Prop} (h : evFirst P O w0 B M ts o k) : ∃ x, k x ∧ ∀ (β β0 : Env) (w1 w w' : World) (df : List Deferred), Inv O w0 β M w → (∀ b, b ∈ B → β b = β0 b) → Calm O w0 B β0 w1 w → Calm O w0 B β0 w1 w' →
    (execOp (Act.eval ⟨fr β ts, df⟩) o).run P w' = .ok (.value (x.den β)) w' := by
  unfold evFirst at h
  split at h
  · rename_i t x ho
    cases hc : calmLd B (rd ts x) with
    | false => rw [hc] at h; exact h.elim
    | true =>
      rw [hc] at h
      obtain ⟨y, hk, hy⟩ := ldX_sound0 h
      refine ⟨y, hk, fun β β0 w1 w w' df hI hB hS hS' => ?_⟩
      have := hy β w' hS'.1 (fun b off blk hx hb o2 x2 hx2 => by
        rw [hx] at hc
        have hbB := any_mem hc
        have hcell := hI.cell hb hx2
        unfold World.cell? at hcell ⊢
        have e : w'.heap[β b]? = w.heap[β b]? := by rw [hB b hbB, hS'.2 b hbB, hS.2 b hbB]
        simp only at hcell ⊢
        rw [e]; exact hcell) (fun b sz j off hx => by rw [hx] at hc; cases hc)
      simp only [execOp, ho, rd_den, Sem.run_bind, this, Result.andThen_ok, Sem.run_pure]
  · obtain ⟨x, hk, hx⟩ := evYield_sound h
    exact ⟨x, hk, fun β _ _ _ w' df hI _ _ _ => hx β w' df hI.lf⟩
theorem evAny_sound {P : Program} {O : Nat → Prop} {w0 : World} {H : Hd} (hH : HS P O w0 H) {ops : List Oper} {B : List Nat} {Q : Exit → Act → World → Prop} (hsel : Region.noSelect ops.toArray = true) (hQp : ∀ c a w, ¬ Q (.panic c) a w) (df : List Deferred) (β0 : Env) (w1 : World) (m0 : Nat) (hBm : ∀ b, b ∈ B → b < m0) : ∀ (n : Nat) (D : List Nat) (listed : Array Bool) (M : List Blk) (ts : List SX) (k : List Blk → List SX → Prop),
    evAny P O w0 H ops B n D listed M ts k → ∀ (β : Env) (w : World), Inv O w0 β M w → m0 ≤ M.length → Ext m0 β0 β → Calm O w0 B β0 w1 w → (∀ M' ts' β' w', k M' ts' → Inv O w0 β' M' w' → Grow M M' β β' → Q .normal ⟨fr β' ts', df⟩ w') → wpAnyH P .any ops.toArray Q (Calm O w0 B β0 w1) n listed ⟨fr β ts, df⟩ w
  | 0, D, listed, M, ts, k, h, β, w, hI, hm, hx0, hS, hQ => by
    unfold evAny at h
    cases he : (Region.ready .any ops.toArray listed).isEmpty with
    | false => rw [he] at h; exact h.elim
    | true =>
      rw [he] at h
      exact ⟨by simpa using he, hQ M ts β w h hI (Grow.refl _ _)⟩
  | n + 1, D, listed, M, ts, k, h, β, w, hI, hm, hx0, hS, hQ => by
    unfold evAny at h
    have hB : ∀ b, b ∈ B → β b = β0 b := fun b hb => (hx0 b (hBm b hb)).1
    have hall : ∀ D ts i, evAll P O w0 H ops B D (evAny P O w0 H ops B n) listed M ts k i → wpOp P ops.toArray Q i (fun a' w' => Calm O w0 B β0 w1 w' ∧ wpAnyH P .any ops.toArray Q (Calm O w0 B β0 w1) n (listed.setIfInBounds i true) a' w') ⟨fr β ts, df⟩ w := by
      intro D ts i h1
      unfold evAll at h1
      unfold wpOp
      rw [List.getElem?_toArray]
      split at h1
      · rename_i o ho
        rw [ho]
        obtain ⟨ts', hf, hc⟩ := guardX_sound h1
        rw [← hf β]
        dsimp only
        rcases hc with ⟨hw, hx⟩ | ⟨hw, hx⟩
        · rw [if_pos (by rw [hf β]; exact hw β)]
          cases hcalm : calmOp H.pure B M ts' o with
          | false => rw [hcalm] at hx; exact hx.elim
          | true =>
            rw [hcalm] at hx
            refine .inl (evOp_sound hH hx hI df fun x M' β' w' hk hI' hg hkp hkk => ?_)
            rw [fcX_eq, putK_eq] at hk
            simp only [calmOp, Bool.and_eq_true, Bool.or_eq_true, Bool.not_eq_true'] at hcalm
            have hS' : Calm O w0 B β0 w1 w' := by
              refine ⟨hI'.fr, fun b hb => ?_⟩
              obtain ⟨eb, cb, hbM⟩ := isMk_of (List.all_eq_true.1 hcalm.2.1 b hb)
              rcases hcalm.2.2 with hemp | hcv | hpc
              · have : B = [] := by simpa using hemp
                rw [this] at hb; cases hb
              rotate_left
              · rw [← hS.2 b hb, ← hB b hb]
                exact hkk hpc _ (hI.lt hbM trivial)
              · rw [← hS.2 b hb, ← hB b hb]
                refine hkp hcv _ (hI.lt hbM trivial) (fun b2 a2 ht hb2 hr2 e => ?_)
                have h1 := hcalm.1
                rw [ht] at h1
                simp only [Bool.not_eq_true'] at h1
                have := hI.inj b b2 _ _ hbM hb2 trivial hr2 e
                subst this
                rw [List.any_eq_false] at h1
                exact h1 b hb (Nat.beq_refl b)
            refine ⟨hS', ?_⟩
            exact evAny_sound hH hsel hQp df β0 w1 m0 hBm n _ _ M' _ k hk β' w' hI' (Nat.le_trans hm hg.le) (hx0.trans (hg.ext.le hm)) hS' fun M2 ts2 β2 w2 h1 h2 h3 => hQ M2 ts2 β2 w2 h1 h2 (hg.trans h3)
        · rw [if_neg (by rw [hf β, hw β]; decide)]
          have e : Act.put ⟨fr β ts', df⟩ o.dst undef = ⟨fr β (putS ts' o.dst undefX), df⟩ := fr_put β ts' df o.dst undefX
          rw [e]
          rw [putK_eq] at hx
          exact ⟨hS, evAny_sound hH hsel hQp df β0 w1 m0 hBm n _ _ M _ k hx β w hI hm hx0 hS hQ⟩
      · exact h1.elim
    split at h
    · rename_i hr
      exact wpAnyH_done hr (hQ M ts β w h hI (Grow.refl _ _)) _
    · rename_i r rs hr
      obtain ⟨D', ts', hf0, h⟩ := preG_sound h
      rw [← hf0 β]
      split at h
      · rename_i i hp
        split at h
        · rename_i o ho
          have hmem := List.mem_of_find?_eq_some hp
          have hsat := List.find?_some hp
          rw [ho] at hsat
          simp only [Bool.and_eq_true] at hsat
          obtain ⟨_, _, hfree⟩ := hsat
          obtain ⟨ts2, hf2, hc⟩ := guardX_sound h
          rw [← hf2 β]
          rcases hc with ⟨hw, hx⟩ | ⟨hw, hx⟩
          · obtain ⟨x, hk, hx⟩ := evFirst_sound hx
            rw [fcX_eq, putK_eq] at hk
            refine wpAnyH_take (oi := o) (v := x.den β) (by rw [List.getElem?_toArray]; exact ho) hsel hfree (by rw [hr]; simpa using hmem) (fun c a w hq => absurd hq (hQp _ _ _)) (.inl ⟨by rw [hf2 β]; exact hw β, fun w' hS' => hx β β0 w1 w w' df hI hB hS hS'⟩) hS ?_
            rw [fr_put]
            exact evAny_sound hH hsel hQp df β0 w1 m0 hBm n _ _ M _ k hk β w hI hm hx0 hS hQ
          · rw [putK_eq] at hx
            refine wpAnyH_take (oi := o) (v := undef) (by rw [List.getElem?_toArray]; exact ho) hsel hfree (by rw [hr]; simpa using hmem) (fun c a w hq => absurd hq (hQp _ _ _)) (.inr ⟨by rw [hf2 β]; exact hw β, rfl⟩) hS ?_
            have e : Act.put ⟨fr β ts2, df⟩ o.dst undef = ⟨fr β (putS ts2 o.dst undefX), df⟩ := fr_put β ts2 df o.dst undefX
            rw [e]
            exact evAny_sound hH hsel hQp df β0 w1 m0 hBm n _ _ M _ k hx β w hI hm hx0 hS hQ
        · exact h.elim
      · split at h
        · refine wpAnyH_all hr (by simp) fun i hi => ?_
          simp only [List.mem_singleton] at hi
          subst hi
          exact hall _ _ _ h
        · refine wpAnyH_all hr (by simp) fun i hi => hall _ _ i (foldr_and h i hi)
end Go.Proofs.YtfhckpfiegenaaaGreatDoor.Eng
