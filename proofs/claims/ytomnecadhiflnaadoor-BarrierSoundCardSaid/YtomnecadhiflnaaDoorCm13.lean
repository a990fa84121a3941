/- The values of a map, sorted. -/
import Derived.Test.YtomnecadhiflnaaDoorCm12
import Derived.Test.YtomnecadhiflnaaDoorShelf
import Derived.Maps.OwnIn
namespace Go.Proofs.YtomnecadhiflnaaDoor.Br
open Go Go.RowKit Go.Maps Go.Sort Go.Shelf
set_option linter.unusedVariables false
set_option linter.unusedSimpArgs false
/-- The number that a map holds at a key. -/
def valC (D : DataW Unit) (x : Int) : Int := match D.atKey (.int .i64 x) (.lit (.int .i64 0)) with
  | .lit (.int _ c) => c
  | _ => 0
set_option maxRecDepth 100000 in
set_option maxHeartbeats 1000000 in
theorem vals47_in (n : Nat) (hn : 1 ≤ n) (l Bm b nn : Nat) (D0 : DataW Unit) (J : List Int → World → Prop)
    (hY : ∀ pre x W, J pre W → pre.length < Maps.size D0 → YieldAt Fence.wide (n - 1) Tryd.prog l #[encZ x] W fun e W' => e = .returned (.bool true) ∧ J (pre ++ [x]) W' ∧ KeepsWalks W W')
    (W : World) (hJ : AbidesFrom W.heap.size J) (hm : W.cell? ⟨Bm, 0, none⟩ = some (.map (some b))) (hown : W.ownsMap Tryd.prog 3 (plainElem Tryd.prog 3) b nn D0) (h0 : J [] W) :
    CallsIn Fence.wide n Tryd.prog 47 #[.func (.yield l) #[] #[], .pointer (some ⟨Bm, 0, none⟩)] W fun e W' => (∃ v, e = .returned v) ∧ ∃ ss : List Int, (∃ ks : List Int, ks.Nodup ∧ (∀ x, x ∈ ks ↔ Maps.has D0 (.int .i64 x) = true) ∧ ss = ks.map (valC D0)) ∧ J ss W' := by
  refine callsIn_of_wp Tryd.func47 rfl trivial ?_ rfl
  simp only [Tryd.ntmps47, List.size_toArray, List.length_cons, List.length_nil, Nat.reduceAdd, Nat.reduceSub, Array.replicate_succ, Array.replicate_zero, List.push_toArray, List.append_toArray, List.nil_append, List.cons_append]
  gi_wp2_with (first
    | (gi_at_range; refine wpListIn_range_own _ rfl _ 62 rfl 3 3 (int_keyed Tryd.underlying3) Tryd.underlying62 _ b nn _ rfl hown ?_; intro w0 hrg0 hg0 hs0)
    | gi_in)
  go_frame
  gi_loopw [4] (fun _ wr => ∃ (left : Lit → Bool) (cnt : Nat) (ks : List Int), wr.ranges Tryd.prog 3 (plainElem Tryd.prog 3) b W.heap.size nn D0 left cnt ∧ ks.length + cnt ≤ Maps.size D0 ∧ CollectedI D0 left ks ∧ J (ks.map (valC D0)) wr)
    (fun _ wr => wr.rangeLeft b W.heap.size)
  case atStart =>
    exact ⟨_, _, [], hrg0, by simp, CollectedI.start D0, hJ [] W w0 none h0 hg0 (fun r e => by cases e)⟩
  case round =>
    obtain ⟨left, cnt, ks, hrg, hcs, hC, hJs⟩ := hrel
    gi_wp2_with (first
      | (gi_at_next; refine wpListIn_next_ranges_ii _ rfl _ rfl 3 3 .i64 .i64 (int_keyed Tryd.underlying3) Tryd.underlying3 Tryd.underlying3 b W.heap.size nn _ _ _ rfl hrg ?_ ?_)
      | gi_in)
    · intro hc0 hl0
      gi_wp2
      go_end0
      exact ⟨⟨_, rfl⟩, _, ⟨ks, hC.1, fun x => by rw [hC.2 x, hl0]; simp, rfl⟩, hJs⟩
    · intro x c w2 cnt2 hwx hwc hlk hat hrg2 hlt hg2 hs2 hen
      have hJ2 : J (ks.map (valC D0)) w2 := hJ _ wr w2 (some W.heap.size) hJs hg2 (fun r e => by cases e; exact ⟨Nat.le_refl _, hrg.iter_walk⟩)
      obtain ⟨fn, tmps, assign, body, hy, hR⟩ := hY _ c w2 hJ2 (by simp; omega)
      clear hs2
      gi_wp2
      refine hR.mono ?_
      rintro e W3 ⟨rfl, hJ3, hk3⟩
      gi_wp2
      have hrg3 := hrg2.of_walks hk3
      go_roundw
      case rel =>
        refine ⟨_, cnt2, ks ++ [x], hrg3, by simp; omega, hC.step hlk hat, ?_⟩
        have hv : valC D0 x = c := by unfold valC; rw [hat]
        rw [List.map_append, List.map_cons, List.map_nil, hv]; exact hJ3
      case measure => rw [hrg3.left_eq, hrg.left_eq]; exact hlt
/-- An iterator over the values of a map. -/
theorem vals_gives (n : Nat) (hn : 1 ≤ n) (Bm b nn : Nat) (D0 : DataW Unit) (w : World) (hBm : Bm < w.heap.size) (hm : w.cell? ⟨Bm, 0, none⟩ = some (.map (some b))) (hown : w.ownsMap Tryd.prog 3 (plainElem Tryd.prog 3) b nn D0) :
    SeqGives Fence.wide n Tryd.prog 47 #[.pointer (some ⟨Bm, 0, none⟩)] encZ (fun ss => ∃ ks : List Int, ks.Nodup ∧ (∀ x, x ∈ ks ↔ Maps.has D0 (.int .i64 x) = true) ∧ ss = ks.map (valC D0)) (Maps.size D0) w := fun l J W hW hJ hY h0 => by
  have hown' : W.ownsMap Tryd.prog 3 (plainElem Tryd.prog 3) b nn D0 := by
    have hbl := hown.lt
    obtain ⟨es, clock, hb, Ft, hs, hD⟩ := hown
    exact ⟨es, clock, (hW.block b hbl).trans hb, Ft, hs, hD⟩
  exact vals47_in n hn l Bm b nn D0 J hY W hJ ((hW.cell (p := ⟨Bm, 0, none⟩) hBm).trans hm) hown' h0
theorem sorts46 (m : Nat) : AnyZI.SortsIn Tryd.prog Tryd.sortedA_ren Fence.wide m :=
  ⟨fun blk off cap ss W hH hblk hsz => callsIn_wide.2 (Tryd.slices_Sort_int blk off cap ss W hH hblk hsz),
   fun p cap W => callsIn_wide.2 (Tryd.slices_Sort_int_none p cap W)⟩
/-- slices.Sorted over the values of a map. -/
theorem sorted29 (Bm b nn : Nat) (D0 : DataW Unit) (w : World) (hBm : Bm < w.heap.size) (hm : w.cell? ⟨Bm, 0, none⟩ = some (.map (some b))) (hown : w.ownsMap Tryd.prog 3 (plainElem Tryd.prog 3) b nn D0) (hN : Maps.size D0 ≤ maxLen) (hNb : Maps.size D0 * 8 ≤ 140737488355328) :
    Calls Tryd.prog 29 #[.func (.func 47) #[] #[.pointer (some ⟨Bm, 0, none⟩)]] w fun e w' => ∃ (v : Value) (ks : List Int), e = .returned v ∧ ks.Nodup ∧ (∀ x, x ∈ ks ↔ Maps.has D0 (.int .i64 x) = true) ∧
      w'.ownsRow w.heap.size 3 1 v ks.length (((ks.map (valC D0)).mergeSort (fun x y => decide (x ≤ y))).map encZ) ∧ Below w.heap.size w w' := by
  refine (callsIn_wide (n := 5)).1 ?_
  have cS := AnyZI.sorted_in Tryd.sortedA Fence.wide 5 trivial trivial trivial trivial rfl (by omega) (sorts46 _) (enters_of Tryd.func46 (by kernel_rfl) rfl) 47 #[.pointer (some ⟨Bm, 0, none⟩)] trivial (enters_of Tryd.func47 (by kernel_rfl) rfl) _ _ hN hNb w (vals_gives 2 (by omega) Bm b nn D0 w hBm hm hown)
  change CallsIn _ _ Tryd.prog 29 _ _ _ at cS
  refine cS.mono ?_
  rintro e w' ⟨v, ss, rfl, ⟨ks, hnd, hmem, rfl⟩, hrow, _, hb⟩
  rw [List.length_map] at hrow
  exact ⟨v, ks, rfl, hnd, hmem, hrow, hb⟩
end Go.Proofs.YtomnecadhiflnaaDoor.Br
