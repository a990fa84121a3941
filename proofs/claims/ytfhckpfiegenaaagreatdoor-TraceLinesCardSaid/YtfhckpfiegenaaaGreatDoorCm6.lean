/- Contracts of what trace takes from elsewhere: numbers' decimal forms, Join; what is known of the package variables. -/
import Derived.Test.YtfhckpfiegenaaaGreatDoorCm5
import Derived.Test.YtfhckpfiegenaaaGreatDoorEngE
import Derived.Test.YtfhckpfiegenaaaGreatDoorGl
import Derived.Test.YtfhckpfiegenaaaGreatDoorShelf
import Derived.Sort.Grow
import Derived.Lib.Join
namespace Go.Proofs.YtfhckpfiegenaaaGreatDoor.Tr
open Go Go.RowKit Go.Proofs.YtfhckpfiegenaaaGreatDoor.Eng Go.Proofs.YtfhckpfiegenaaaGreatDoor.Cm
set_option linter.unusedVariables false
set_option linter.unusedSimpArgs false
set_option maxRecDepth 8000
abbrev tV (s : ByteArray) : SX := .v (.c (.val (.string s)))
def ixTab : List ByteArray := [⟨#[110, 111, 110, 101]⟩, ⟨#[105, 110, 100, 101, 120, 56]⟩, ⟨#[105, 110, 100, 101, 120, 49, 54]⟩, ⟨#[105, 110, 100, 101, 120, 51, 50]⟩]
def stTab : List ByteArray := [⟨#[117, 110, 100, 101, 102, 105, 110, 101, 100]⟩, ⟨#[114, 101, 97, 100]⟩, ⟨#[116, 97, 114, 103, 101, 116]⟩, ⟨#[115, 111, 117, 114, 99, 101]⟩, ⟨#[99, 111, 112, 121]⟩]
def tabRow (l : List ByteArray) (A : Option Addr) (cap : Nat) : List SC := [.rsl A 1 (strsAt l) 0 l.length cap]
/-- What is known of a package variable that holds words. -/
structure GlW (g : Nat) (l : List ByteArray) (O : Nat → Prop) (w0 : World) : Prop where
  out : ∃ A cap, RowAt O w0 (some ⟨g, 0, none⟩) 1 (tabRow l A cap) 0 ∧ ∀ j, j < l.length → A.isSome = true ∧ RowAt O w0 A 1 (strsAt l j) j
theorem GlW.at {g : Nat} {l : List ByteArray} {O : Nat → Prop} {w0 w : World} (h : GlW g l O w0) (hw : Fr O w0 w) : GlW g l (fun _ => False) w := by
  obtain ⟨A, cap, h1, h2⟩ := h.out
  exact ⟨A, cap, h1.at hw, fun j hj => ⟨(h2 j hj).1, (h2 j hj).2.at hw⟩⟩
theorem frTrans {O : Nat → Prop} {w0 w w' : World} (h : Fr O w0 w) (h' : Fr (fun _ => False) w w') : Fr O w0 w' :=
  ⟨h'.os.trans h.os, h'.tape.trans h.tape, h'.output.trans h.output, Nat.le_trans h.size h'.size, fun r hr ho => (h'.block r (Nat.lt_of_lt_of_le hr h.size) (fun h => h)).trans (h.block r hr ho)⟩
/-- What is known of the package variables. -/
structure GlT (O : Nat → Prop) (w0 : World) : Prop where
  nm : Gl0 O w0
  ix : GlW 1 ixTab O w0
  st : GlW 2 stTab O w0
  lib : ∀ w, Fr O w0 w → Gl w
theorem GlT.at {O : Nat → Prop} {w0 w : World} (h : GlT O w0) (hw : Fr O w0 w) : GlT (fun _ => False) w := ⟨h.nm.at hw, h.ix.at hw, h.st.at hw, fun w' hw' => h.lib w' (frTrans hw hw')⟩
/-- A number's decimal form. -/
def fiS (n : Int) : ByteArray := ⟨(Lib.itoa n).toArray⟩
def gFi : EntF := fun O w0 args M k => match args with
  | [.v (.c (.val (.int .i64 n)))] => GlT O w0 ∧ I64 n ∧ k (tV (fiS n)) M
  | _ => False
/-- The list that a list's elements are. -/
structure LsX {α : Type} (enc : α → List SC) (d : α) (n : Nat) (f : Nat → List SC) (xs : List α) : Prop where
  len : n = xs.length
  at_ : ∀ j, j < n → f j = enc (xs.getD j d)
def encS (x : ByteArray) : List SC := [.val (.string x)]
/-- Words with one space between. -/
def joinT : List ByteArray → ByteArray
  | [] => ⟨#[]⟩
  | [x] => x
  | x :: y :: r => x ++ (⟨#[32]⟩ ++ joinT (y :: r))
def wtS : List ByteArray → Nat
  | [] => 0
  | x :: r => x.size + 1 + wtS r
structure JoinOk (xs : List ByteArray) (sep : ByteArray) : Prop where
  sep : sep = ⟨#[32]⟩
  w : wtS xs ≤ 1000000000
  n : xs.length ≤ 10000000
structure JoinIs (xs : List ByteArray) (r : ByteArray) : Prop where
  eq : r = joinT xs
/-- Join of a list of our own. -/
def gJoin : EntF := fun _ _ args M k => match args with
  | [.v (.c (.lst p)), .v (.c (.val (.string sep)))] => (match M[p]? with
    | some (.lst 9 1 m f) => ∃ xs, LsX encS ⟨#[]⟩ m f xs ∧ JoinOk xs sep ∧ ∀ r, JoinIs xs r → k (tV r) M
    | _ => False)
  | [.v (.c (.sl p 0 1 1)), .v (.c (.val (.string sep)))] => (match M[p]? with
    | some (.mk 9 [.val (.string s)]) => JoinOk [s] sep ∧ ∀ r, JoinIs [s] r → k (tV r) M
    | _ => False)
  | _ => False
/-- Clone of a command: its list is a copy. -/
def gCln : EntF := fun O w0 args M k => match args with
  | [.v (.agg cs)] => cs.all (·.lt 0) = true ∧ ∃ x, CmdX O w0 (.v (.agg cs)) x ∧ Room x.f9.length 8 ∧ k (.v (.agg (cs.set 20 (.lst M.length)))) (M ++ [.lst 3 1 x.f9.length (ints x.f9)])
  | _ => False
set_option maxHeartbeats 4000000 in
set_option maxRecDepth 100000 in
theorem f20 (O : Nat → Prop) (w0 : World) (x : S33) (A : Option Addr) (c : Nat) (K : SX → List Blk → Prop) (h_ : bif bif Option.isNone A then true else false then K (SX.v (SV.agg [SC.val (Value.int IntKind.i64 (S33.f0 x)), SC.val (Value.int IntKind.i64 (S33.f1 x)), SC.val (Value.int IntKind.i64 (S33.f2 x)), SC.val (Value.int IntKind.i64 (S33.f3 x)), SC.val (Value.int IntKind.i64 (S33.f4 x)), SC.val (Value.int IntKind.i64 (S33.f5 x)), SC.val (Value.int IntKind.i64 (S33.f6 x)), SC.val (Value.int IntKind.i64 (S33.f7 x)), SC.val (Value.int IntKind.i64 (S30.f0 (S33.f8 x))), SC.val (Value.int IntKind.i64 (S30.f1 (S33.f8 x))), SC.val (Value.int IntKind.i64 (S30.f2 (S33.f8 x))), SC.val (Value.int IntKind.i64 (S30.f3 (S33.f8 x))), SC.val (Value.int IntKind.i64 (S30.f4 (S33.f8 x))), SC.val (Value.int IntKind.i64 (S28.f0 (S30.f5 (S33.f8 x)))), SC.val (Value.int IntKind.i64 (S28.f1 (S30.f5 (S33.f8 x)))), SC.val (Value.int IntKind.i64 (S28.f2 (S30.f5 (S33.f8 x)))), SC.val (Value.int IntKind.i64 (S28.f3 (S30.f5 (S33.f8 x)))), SC.val (Value.int IntKind.i64 (S30.f6 (S33.f8 x))), SC.val (Value.int IntKind.i64 (S30.f7 (S33.f8 x))), SC.val (Value.int IntKind.i64 (S30.f8 (S33.f8 x))), SC.val (Value.slice none (0 : Nat) (0 : Nat)), SC.val (Value.int IntKind.i64 (S28.f0 (S33.f10 x))), SC.val (Value.int IntKind.i64 (S28.f1 (S33.f10 x))), SC.val (Value.int IntKind.i64 (S28.f2 (S33.f10 x))), SC.val (Value.int IntKind.i64 (S28.f3 (S33.f10 x))), SC.val (Value.int IntKind.i64 (S33.f11 x)), SC.val (Value.int IntKind.i64 (S33.f12 x)), SC.val (Value.bool (S33.f13 x))])) [Blk.mk 33 [SC.val (Value.int IntKind.i64 (S33.f0 x)), SC.val (Value.int IntKind.i64 (S33.f1 x)), SC.val (Value.int IntKind.i64 (S33.f2 x)), SC.val (Value.int IntKind.i64 (S33.f3 x)), SC.val (Value.int IntKind.i64 (S33.f4 x)), SC.val (Value.int IntKind.i64 (S33.f5 x)), SC.val (Value.int IntKind.i64 (S33.f6 x)), SC.val (Value.int IntKind.i64 (S33.f7 x)), SC.val (Value.int IntKind.i64 (S30.f0 (S33.f8 x))), SC.val (Value.int IntKind.i64 (S30.f1 (S33.f8 x))), SC.val (Value.int IntKind.i64 (S30.f2 (S33.f8 x))), SC.val (Value.int IntKind.i64 (S30.f3 (S33.f8 x))), SC.val (Value.int IntKind.i64 (S30.f4 (S33.f8 x))), SC.val (Value.int IntKind.i64 (S28.f0 (S30.f5 (S33.f8 x)))), SC.val (Value.int IntKind.i64 (S28.f1 (S30.f5 (S33.f8 x)))), SC.val (Value.int IntKind.i64 (S28.f2 (S30.f5 (S33.f8 x)))), SC.val (Value.int IntKind.i64 (S28.f3 (S30.f5 (S33.f8 x)))), SC.val (Value.int IntKind.i64 (S30.f6 (S33.f8 x))), SC.val (Value.int IntKind.i64 (S30.f7 (S33.f8 x))), SC.val (Value.int IntKind.i64 (S30.f8 (S33.f8 x))), SC.val (Value.slice none (0 : Nat) (0 : Nat)), SC.val (Value.int IntKind.i64 (S28.f0 (S33.f10 x))), SC.val (Value.int IntKind.i64 (S28.f1 (S33.f10 x))), SC.val (Value.int IntKind.i64 (S28.f2 (S33.f10 x))), SC.val (Value.int IntKind.i64 (S28.f3 (S33.f10 x))), SC.val (Value.int IntKind.i64 (S33.f11 x)), SC.val (Value.int IntKind.i64 (S33.f12 x)), SC.val (Value.bool (S33.f13 x))], Blk.mk 33 [SC.val (Value.int IntKind.i64 (S33.f0 x)), SC.val (Value.int IntKind.i64 (S33.f1 x)), SC.val (Value.int IntKind.i64 (S33.f2 x)), SC.val (Value.int IntKind.i64 (S33.f3 x)), SC.val (Value.int IntKind.i64 (S33.f4 x)), SC.val (Value.int IntKind.i64 (S33.f5 x)), SC.val (Value.int IntKind.i64 (S33.f6 x)), SC.val (Value.int IntKind.i64 (S33.f7 x)), SC.val (Value.int IntKind.i64 (S30.f0 (S33.f8 x))), SC.val (Value.int IntKind.i64 (S30.f1 (S33.f8 x))), SC.val (Value.int IntKind.i64 (S30.f2 (S33.f8 x))), SC.val (Value.int IntKind.i64 (S30.f3 (S33.f8 x))), SC.val (Value.int IntKind.i64 (S30.f4 (S33.f8 x))), SC.val (Value.int IntKind.i64 (S28.f0 (S30.f5 (S33.f8 x)))), SC.val (Value.int IntKind.i64 (S28.f1 (S30.f5 (S33.f8 x)))), SC.val (Value.int IntKind.i64 (S28.f2 (S30.f5 (S33.f8 x)))), SC.val (Value.int IntKind.i64 (S28.f3 (S30.f5 (S33.f8 x)))), SC.val (Value.int IntKind.i64 (S30.f6 (S33.f8 x))), SC.val (Value.int IntKind.i64 (S30.f7 (S33.f8 x))), SC.val (Value.int IntKind.i64 (S30.f8 (S33.f8 x))), SC.val (Value.slice none (0 : Nat) (0 : Nat)), SC.val (Value.int IntKind.i64 (S28.f0 (S33.f10 x))), SC.val (Value.int IntKind.i64 (S28.f1 (S33.f10 x))), SC.val (Value.int IntKind.i64 (S28.f2 (S33.f10 x))), SC.val (Value.int IntKind.i64 (S28.f3 (S33.f10 x))), SC.val (Value.int IntKind.i64 (S33.f11 x)), SC.val (Value.int IntKind.i64 (S33.f12 x)), SC.val (Value.bool (S33.f13 x))]] else RowsOk O w0 A (1 : Nat) (ints (S33.f9 x)) (0 : Nat) (List.length (S33.f9 x)) ∧ Room ((0 : Nat) + List.length (S33.f9 x)) (8 : Nat) ∧ K (SX.v (SV.agg [SC.val (Value.int IntKind.i64 (S33.f0 x)), SC.val (Value.int IntKind.i64 (S33.f1 x)), SC.val (Value.int IntKind.i64 (S33.f2 x)), SC.val (Value.int IntKind.i64 (S33.f3 x)), SC.val (Value.int IntKind.i64 (S33.f4 x)), SC.val (Value.int IntKind.i64 (S33.f5 x)), SC.val (Value.int IntKind.i64 (S33.f6 x)), SC.val (Value.int IntKind.i64 (S33.f7 x)), SC.val (Value.int IntKind.i64 (S30.f0 (S33.f8 x))), SC.val (Value.int IntKind.i64 (S30.f1 (S33.f8 x))), SC.val (Value.int IntKind.i64 (S30.f2 (S33.f8 x))), SC.val (Value.int IntKind.i64 (S30.f3 (S33.f8 x))), SC.val (Value.int IntKind.i64 (S30.f4 (S33.f8 x))), SC.val (Value.int IntKind.i64 (S28.f0 (S30.f5 (S33.f8 x)))), SC.val (Value.int IntKind.i64 (S28.f1 (S30.f5 (S33.f8 x)))), SC.val (Value.int IntKind.i64 (S28.f2 (S30.f5 (S33.f8 x)))), SC.val (Value.int IntKind.i64 (S28.f3 (S30.f5 (S33.f8 x)))), SC.val (Value.int IntKind.i64 (S30.f6 (S33.f8 x))), SC.val (Value.int IntKind.i64 (S30.f7 (S33.f8 x))), SC.val (Value.int IntKind.i64 (S30.f8 (S33.f8 x))), SC.lst 3, SC.val (Value.int IntKind.i64 (S28.f0 (S33.f10 x))), SC.val (Value.int IntKind.i64 (S28.f1 (S33.f10 x))), SC.val (Value.int IntKind.i64 (S28.f2 (S33.f10 x))), SC.val (Value.int IntKind.i64 (S28.f3 (S33.f10 x))), SC.val (Value.int IntKind.i64 (S33.f11 x)), SC.val (Value.int IntKind.i64 (S33.f12 x)), SC.val (Value.bool (S33.f13 x))])) [Blk.mk 33 [SC.val (Value.int IntKind.i64 (S33.f0 x)), SC.val (Value.int IntKind.i64 (S33.f1 x)), SC.val (Value.int IntKind.i64 (S33.f2 x)), SC.val (Value.int IntKind.i64 (S33.f3 x)), SC.val (Value.int IntKind.i64 (S33.f4 x)), SC.val (Value.int IntKind.i64 (S33.f5 x)), SC.val (Value.int IntKind.i64 (S33.f6 x)), SC.val (Value.int IntKind.i64 (S33.f7 x)), SC.val (Value.int IntKind.i64 (S30.f0 (S33.f8 x))), SC.val (Value.int IntKind.i64 (S30.f1 (S33.f8 x))), SC.val (Value.int IntKind.i64 (S30.f2 (S33.f8 x))), SC.val (Value.int IntKind.i64 (S30.f3 (S33.f8 x))), SC.val (Value.int IntKind.i64 (S30.f4 (S33.f8 x))), SC.val (Value.int IntKind.i64 (S28.f0 (S30.f5 (S33.f8 x)))), SC.val (Value.int IntKind.i64 (S28.f1 (S30.f5 (S33.f8 x)))), SC.val (Value.int IntKind.i64 (S28.f2 (S30.f5 (S33.f8 x)))), SC.val (Value.int IntKind.i64 (S28.f3 (S30.f5 (S33.f8 x)))), SC.val (Value.int IntKind.i64 (S30.f6 (S33.f8 x))), SC.val (Value.int IntKind.i64 (S30.f7 (S33.f8 x))), SC.val (Value.int IntKind.i64 (S30.f8 (S33.f8 x))), SC.lst 3, SC.val (Value.int IntKind.i64 (S28.f0 (S33.f10 x))), SC.val (Value.int IntKind.i64 (S28.f1 (S33.f10 x))), SC.val (Value.int IntKind.i64 (S28.f2 (S33.f10 x))), SC.val (Value.int IntKind.i64 (S28.f3 (S33.f10 x))), SC.val (Value.int IntKind.i64 (S33.f11 x)), SC.val (Value.int IntKind.i64 (S33.f12 x)), SC.val (Value.bool (S33.f13 x))], Blk.mk 33 [SC.val (Value.int IntKind.i64 (S33.f0 x)), SC.val (Value.int IntKind.i64 (S33.f1 x)), SC.val (Value.int IntKind.i64 (S33.f2 x)), SC.val (Value.int IntKind.i64 (S33.f3 x)), SC.val (Value.int IntKind.i64 (S33.f4 x)), SC.val (Value.int IntKind.i64 (S33.f5 x)), SC.val (Value.int IntKind.i64 (S33.f6 x)), SC.val (Value.int IntKind.i64 (S33.f7 x)), SC.val (Value.int IntKind.i64 (S30.f0 (S33.f8 x))), SC.val (Value.int IntKind.i64 (S30.f1 (S33.f8 x))), SC.val (Value.int IntKind.i64 (S30.f2 (S33.f8 x))), SC.val (Value.int IntKind.i64 (S30.f3 (S33.f8 x))), SC.val (Value.int IntKind.i64 (S30.f4 (S33.f8 x))), SC.val (Value.int IntKind.i64 (S28.f0 (S30.f5 (S33.f8 x)))), SC.val (Value.int IntKind.i64 (S28.f1 (S30.f5 (S33.f8 x)))), SC.val (Value.int IntKind.i64 (S28.f2 (S30.f5 (S33.f8 x)))), SC.val (Value.int IntKind.i64 (S28.f3 (S30.f5 (S33.f8 x)))), SC.val (Value.int IntKind.i64 (S30.f6 (S33.f8 x))), SC.val (Value.int IntKind.i64 (S30.f7 (S33.f8 x))), SC.val (Value.int IntKind.i64 (S30.f8 (S33.f8 x))), SC.lst 3, SC.val (Value.int IntKind.i64 (S28.f0 (S33.f10 x))), SC.val (Value.int IntKind.i64 (S28.f1 (S33.f10 x))), SC.val (Value.int IntKind.i64 (S28.f2 (S33.f10 x))), SC.val (Value.int IntKind.i64 (S28.f3 (S33.f10 x))), SC.val (Value.int IntKind.i64 (S33.f11 x)), SC.val (Value.int IntKind.i64 (S33.f12 x)), SC.val (Value.bool (S33.f13 x))], Blk.dead, Blk.lst 3 1 ((0 : Nat) + List.length (S33.f9 x)) fun j ↦ [SC.val (Value.int IntKind.i64 (List.getD (S33.f9 x) ((0 : Nat) + (j - (0 : Nat))) (0 : Int)))]]) : evFn Tryz.prog O w0 (Γ6 O w0) Λn 100 5 20 [cmdV x A c] [] (fun y M => K y M) := vc_of h_ (by kernel_rfl)
def Γi : TabF := addF (fun _ _ => Γ0) 93 gFi
set_option maxHeartbeats 4000000 in
set_option maxRecDepth 100000 in
theorem f72 (O : Nat → Prop) (w0 : World) (n : Int) (K : SX → Prop) (h_ : GlT O w0 ∧ I64 n ∧ K (SX.v (SV.c (SC.val (Value.string (fiS n)))))) : evFn Tryz.prog O w0 (Γi O w0) Λn 100 5 72 [iV n] [] (fun y _ => K y) := vc_of h_ (by kernel_rfl)
def ΓL : TabF := addF (addF (addF Γ6 72 gFi) 22 gJoin) 20 gCln
--HIDE
theorem Entry.below {P : Program} {f : FuncId} {g : EntF} (h : ∀ O w0 args M k, g O w0 args M k → ∃ x, k x M ∧ ∀ β w, Inv O w0 β M w → Calls P f (fr β args) w (fun e w' => e = .returned (x.den β) ∧ Below w.heap.size w w')) : ∀ O w0, Entry P O w0 f (g O w0) := fun O w0 hf args M k hg hm β w hI => by
  obtain ⟨x, hk, hc⟩ := h O w0 args M k hg
  refine (hc β w hI).mono ?_
  rintro e w' ⟨rfl, hb⟩
  exact ⟨x, M, β, hk, rfl, hI.after ⟨hb.os, hb.tape, hb.output, hb.size, fun r hr _ => hb.block r hr⟩, Grow.refl _ _, fun r hr => hb.block r hr⟩
theorem e93 (O : Nat → Prop) (w0 : World) : Entry Tryz.prog O w0 93 (gFi O w0) := Entry.below (g := gFi) (fun O w0 args M k hg => by
  unfold gFi at hg
  split at hg
  case h_2 => exact hg.elim
  rename_i n
  obtain ⟨hG, ⟨h0, h1⟩, hk⟩ := hg
  refine ⟨_, hk, fun β w hI => ?_⟩
  refine (Tryz.strconv_Itoa n h0 h1 w (hG.lib w hI.fr).pow10).mono ?_
  rintro e w' ⟨rfl, m, os, rfl⟩
  exact ⟨rfl, rfl, rfl, rfl, by simp [Sort.grow], fun k hk => Sort.heap_grow_old _ _ (by simpa using hk)⟩) O w0
theorem Γi_ok : TSF Tryz.prog Γi := (TSF.none _).add e93
theorem e72 (O : Nat → Prop) (w0 : World) : Entry Tryz.prog O w0 72 (gFi O w0) :=
  Entry.pure Γi_ok 100 5 (g := gFi) (fun O w0 args M k hg => by
    unfold gFi at hg
    split at hg
    case h_2 => exact hg.elim
    rename_i n
    obtain ⟨hG, hn, hk⟩ := hg
    exact ⟨_, _, rfl, hk, fun _ => rfl, fun w hw => ⟨Λn, f72 _ w n _ ⟨hG.at hw, hn, rfl⟩⟩⟩) O w0
def byt (x : ByteArray) : List UInt8 := x.data.toList
theorem byt_app (x y : ByteArray) : byt (x ++ y) = byt x ++ byt y := by simp [byt, ByteArray.data_append]
theorem byt_inj {x y : ByteArray} (h : byt x = byt y) : x = y := by
  cases x; cases y
  congr 1
  exact Array.toList_inj.1 h
theorem joinT_cons (x : ByteArray) (r : List ByteArray) : joinT (x :: r) = x ++ (match r with | [] => ⟨#[]⟩ | y :: s => ⟨#[32]⟩ ++ joinT (y :: s)) := by
  cases r with
  | nil => exact byt_inj (by rw [byt_app]; simp [byt, joinT])
  | cons y s => rfl
theorem byt_joinT : ∀ l : List ByteArray, byt (joinT l) = Lib.join (l.map byt) [32]
  | [] => rfl
  | x :: r => by
    rw [List.map_cons, Lib.join_cons, joinT_cons, byt_app]
    congr 1
    cases r with
    | nil => rfl
    | cons y r =>
      show byt (⟨#[32]⟩ ++ joinT (y :: r)) = _
      rw [byt_app, byt_joinT (y :: r), List.map_cons, Lib.join_cons]
      simp [Lib.joinTail, byt]
theorem joinT_lib (l : List ByteArray) : (⟨(Lib.join (l.map (·.data.toList)) [32]).toArray⟩ : ByteArray) = joinT l := by
  apply byt_inj
  rw [byt_joinT]
  show (Lib.join (l.map (·.data.toList)) [32]).toArray.toList = _
  rw [List.toList_toArray]; rfl
theorem app_size (x y : ByteArray) : (x ++ y).size = x.size + y.size := by simp
theorem joinT_size : ∀ l : List ByteArray, (joinT l).size ≤ wtS l
  | [] => Nat.zero_le _
  | [x] => by show x.size ≤ x.size + 1 + 0; omega
  | x :: y :: r => by
    have := joinT_size (y :: r)
    show (x ++ (⟨#[32]⟩ ++ joinT (y :: r))).size ≤ x.size + 1 + wtS (y :: r)
    rw [app_size, app_size]
    have : (ByteArray.mk #[32]).size = 1 := rfl
    omega
theorem add_plain0 {b n : Nat} : (⟨b, 0, none⟩ : Addr).add n = ⟨b, n, none⟩ := by
  unfold Addr.add; split
  · rename_i h0; subst h0; rfl
  · simp
theorem e22 (O : Nat → Prop) (w0 : World) : Entry Tryz.prog O w0 22 (gJoin O w0) := Entry.below (g := gJoin) (fun O w0 args M k hg => by
  unfold gJoin at hg
  split at hg
  case h_3 => exact hg.elim
  case h_2 =>
    rename_i p sep
    split at hg
    case h_2 => exact hg.elim
    rename_i s hp
    obtain ⟨⟨rfl, hw, hn⟩, hk⟩ := hg
    refine ⟨_, hk _ ⟨rfl⟩, fun β w hI => ?_⟩
    rw [← joinT_lib [s]]
    have hw : s.size + 1 + 0 ≤ 1000000000 := hw
    have hjl : (Lib.join ([s].map (·.data.toList)) [32]).length = s.size := by
      rw [List.map_cons, List.map_nil, Lib.join_one]; rfl
    exact Tryz.strings_Join (β p) 0 1 [s] ⟨#[32]⟩ w (fun j x hj => by
      have h0 : j = 0 := by have := (List.getElem?_eq_some_iff.1 hj).1; simpa using this
      subst h0
      cases hj
      exact hI.cell (off := 0) (x := .val (.string s)) hp rfl) (hI.lt hp trivial) (by simp) (by simp) (by show (Lib.join ([s].map (·.data.toList)) [32]).length ≤ _; omega)
  rename_i p sep
  split at hg
  case h_2 => exact hg.elim
  rename_i m f hp
  obtain ⟨xs, ⟨hm, hx⟩, ⟨rfl, hw, hn⟩, hk⟩ := hg
  refine ⟨_, hk _ ⟨rfl⟩, fun β w hI => ?_⟩
  have hL := hI.ls p 9 1 m f hp
  have hsv : ∀ v, (β.v p) = v → (SC.lst p).den β = .slice v.1 v.2.1 v.2.2 := fun v e => by show β.sv p = _; unfold Env.sv; rw [e]
  rw [← joinT_lib xs]
  rcases hL.facts with ⟨e1, e2⟩ | ⟨cap, cur, e1, _, e3, e4, e5, e6, e7⟩
  · have : xs = [] := List.eq_nil_of_length_eq_zero (by omega)
    subst this
    have hd := hsv _ e1
    refine Calls.mono (R := fun e w' => e = .returned (.string ⟨#[]⟩) ∧ w' = w) ?_ ?_
    · have := Tryz.strings_Join_none none 0 ⟨#[32]⟩ w
      have e : fr β [SX.v (SV.c (SC.lst p)), SX.v (SV.c (SC.val (Value.string ⟨#[32]⟩)))] = #[.slice none 0 0, .string ⟨#[32]⟩] := by
        show #[(SC.lst p).den β, _] = _
        rw [hd]; rfl
      rw [e]; exact this
    · rintro e w' ⟨rfl, rfl⟩
      exact ⟨rfl, Below.refl _ _⟩
  · have hd := hsv _ e1
    have e : fr β [SX.v (SV.c (SC.lst p)), SX.v (SV.c (SC.val (Value.string ⟨#[32]⟩)))] = #[.slice (some ⟨β p, 0, none⟩) xs.length cap, .string ⟨#[32]⟩] := by
      show #[(SC.lst p).den β, _] = _
      rw [hd, hm]; rfl
    rw [e]
    have hjl : (Lib.join (xs.map (·.data.toList)) [32]).length ≤ 1000000000 := by
      have h1 := joinT_size xs
      have h2 : (joinT xs).size = (byt (joinT xs)).length := rfl
      rw [byt_joinT] at h2
      have h3 : Lib.join (xs.map (·.data.toList)) [32] = Lib.join (xs.map byt) [32] := rfl
      rw [h3]; omega
    refine Tryz.strings_Join (β p) 0 cap xs ⟨#[32]⟩ w (fun j x hj => ?_) (Array.getElem?_eq_some_iff.1 e3).1 (by omega) (by omega) (by show (Lib.join (xs.map (·.data.toList)) [32]).length ≤ _; omega)
    have hjl2 : j < m := by have := (List.getElem?_eq_some_iff.1 hj).1; omega
    obtain ⟨a, ha, hc⟩ := hL.cell hjl2 (m := 0) (c := .val (.string x)) (by rw [hx j hjl2, List.getD_eq_getElem?_getD, hj]; rfl)
    rw [e1] at ha
    obtain rfl := Option.some.inj ha
    rw [Nat.mul_one, Nat.add_zero, add_plain0] at hc
    rw [Nat.zero_add]; exact hc) O w0
set_option maxRecDepth 100000 in
theorem e20 (O : Nat → Prop) (w0 : World) : Entry Tryz.prog O w0 20 (gCln O w0) :=
  Entry.madeA Γ6_ok 100 5 (g := gCln) (fun O w0 args M k hg β w hI => by
    unfold gCln at hg
    split at hg
    case h_2 => exact hg.elim
    rename_i cs
    obtain ⟨h0, x, ⟨hx, A, c, ha, hA⟩, hroom, hk⟩ := hg
    refine ⟨[cmdV x A c], Λn, by unfold fr; simp only [List.map_cons, ha β, List.map_nil], f20 _ w x A c _ ?_⟩
    have hden : ∀ β, cs.map (·.den β) = (cells33 x (sC A x.f9 c)).map (·.den β) := fun β => by
      have h1 : Value.agg (cs.map (·.den β)).toArray = Value.agg ((cells33 x (sC A x.f9 c)).map (·.den β)).toArray := ha β
      injection h1 with h1
      exact congrArg Array.toList h1
    have hy : ∀ (s : SC) (β : Env), (SX.v (.agg (cells33 x s))).den β = (SX.v (.agg (cs.set 20 s))).den β := fun s β => by
      show Value.agg _ = Value.agg _
      rw [List.map_set, hden β]; rfl
    have fin : ∀ (M' : List Blk) (s : SC), ResL M' 3 1 x.f9.length (ints x.f9) s → ∃ X x_1 e sz n F, CongX X ∧ (∀ β, (SX.v (.agg (cells33 x s))).den β = (X x_1).den β) ∧ ResL M' e sz n F x_1 ∧ k (X (.lst M.length)) (M ++ [.lst e sz n F]) := fun M' s h => ⟨_, s, 3, 1, _, _, CongX.set h0 20, hy s, h, hk⟩
    refine cond_of (fun hn => fin _ _ (.nil ?_)) (fun hn => ⟨⟨fun j hj => ⟨(hA j hj).1, by rw [Nat.zero_add]; exact (hA j hj).2.at hI.fr, rfl, rfl⟩⟩, by rw [Nat.zero_add]; exact hroom, fin _ _ (.lst 3 (fun j => [SC.val (.int .i64 (x.f9.getD (0 + (j - 0)) 0))]) (by show some (Blk.lst 3 1 (0 + x.f9.length) _) = _; rw [Nat.zero_add]) fun j _ => ?_)⟩)
    · cases hl : x.f9.length with
      | zero => rfl
      | succ n =>
        have := (hA 0 (by omega)).1
        cases A with
        | none => cases this
        | some a => cases hn
    · show [SC.val (.int .i64 (x.f9.getD (0 + (j - 0)) 0))] = ints x.f9 j
      rw [Nat.zero_add, Nat.sub_zero]; rfl) O w0
theorem ΓL_ok : TSF Tryz.prog ΓL := ((Γ6_ok.add e72).add e22).add e20
--SHOW
end Go.Proofs.YtfhckpfiegenaaaGreatDoor.Tr
