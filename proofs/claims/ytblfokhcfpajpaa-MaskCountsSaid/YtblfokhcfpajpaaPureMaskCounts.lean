/- Proved: The numbers of lanes of the union and the intersection add up to those of both masks, and All has as many lanes as asked for, up to 16. It holds for all arguments of the Go function. -/
import Derived.Test.YtblfokhcfpajpaaMaskCore
namespace Go.Proofs.Ytblfokhcfpajpaa.Pure
open Go Go.RowKit Go.Proofs.Ytblfokhcfpajpaa.PM Go.Proofs.YtblfokhcfpajpaaW.PrintWords Go.Proofs.YtblfokhcfpajpaaW.PrintLast Go.Proofs.YtblfokhcfpajpaaW.PrintMore

def b2 (m i : Nat) : Nat := (m.testBit i).toNat
def table : ByteArray := ⟨#[0, 1, 1, 2, 1, 2, 2, 3, 1, 2, 2, 3, 2, 3, 3, 4, 1, 2, 2, 3, 2, 3, 3, 4, 2, 3, 3, 4, 3, 4, 4, 5, 1, 2, 2, 3, 2, 3, 3, 4, 2, 3, 3, 4, 3, 4, 4, 5, 2, 3, 3, 4, 3, 4, 4, 5, 3, 4, 4, 5, 4, 5, 5, 6, 1, 2, 2, 3, 2, 3, 3, 4, 2, 3, 3, 4, 3, 4, 4, 5, 2, 3, 3, 4, 3, 4, 4, 5, 3, 4, 4, 5, 4, 5, 5, 6, 2, 3, 3, 4, 3, 4, 4, 5, 3, 4, 4, 5, 4, 5, 5, 6, 3, 4, 4, 5, 4, 5, 5, 6, 4, 5, 5, 6, 5, 6, 6, 7, 1, 2, 2, 3, 2, 3, 3, 4, 2, 3, 3, 4, 3, 4, 4, 5, 2, 3, 3, 4, 3, 4, 4, 5, 3, 4, 4, 5, 4, 5, 5, 6, 2, 3, 3, 4, 3, 4, 4, 5, 3, 4, 4, 5, 4, 5, 5, 6, 3, 4, 4, 5, 4, 5, 5, 6, 4, 5, 5, 6, 5, 6, 6, 7, 2, 3, 3, 4, 3, 4, 4, 5, 3, 4, 4, 5, 4, 5, 5, 6, 3, 4, 4, 5, 4, 5, 5, 6, 4, 5, 5, 6, 5, 6, 6, 7, 3, 4, 4, 5, 4, 5, 5, 6, 4, 5, 5, 6, 5, 6, 6, 7, 4, 5, 5, 6, 5, 6, 6, 7, 5, 6, 6, 7, 6, 7, 7, 8]⟩
set_option maxRecDepth 100000 in
theorem table_all : (List.range 256).all (fun x => bt table (x : Int) == ((b2 x 0 + b2 x 1 + b2 x 2 + b2 x 3 + b2 x 4 + b2 x 5 + b2 x 6 + b2 x 7 : Nat) : Int)) = true := by decide +kernel
theorem table_tells (x : Nat) (h : x < 256) : bt table (x : Int) = ((b2 x 0 + b2 x 1 + b2 x 2 + b2 x 3 + b2 x 4 + b2 x 5 + b2 x 6 + b2 x 7 : Nat) : Int) :=
  eq_of_beq (List.all_eq_true.mp table_all x (List.mem_range.mpr h))
/-- How many lanes a mask has. -/
def pop (m : Nat) : Nat := b2 m 0 + b2 m 1 + b2 m 2 + b2 m 3 + b2 m 4 + b2 m 5 + b2 m 6 + b2 m 7 + b2 m 8 + b2 m 9 + b2 m 10 + b2 m 11 + b2 m 12 + b2 m 13 + b2 m 14 + b2 m 15
theorem b2_le (m i : Nat) : b2 m i ≤ 1 := by unfold b2; cases m.testBit i <;> decide
theorem b2_low (m i : Nat) (h : i < 8) : b2 (m % 256) i = b2 m i := by unfold b2; rw [show 256 = 2 ^ 8 from rfl, Nat.testBit_mod_two_pow, decide_eq_true h]; rfl
theorem b2_high (m i : Nat) : b2 (m / 256) i = b2 m (i + 8) := by unfold b2; rw [show 256 = 2 ^ 8 from rfl, Nat.testBit_div_two_pow]
theorem count_tells (m : Nat) (hm : m < 65536) : mask_Count.f m = some ((pop m : Nat) : Int) := by
  have e0 : bits_OnesCount16.f m = if 0 ≤ ((m : Int) / 256) then (if ((m : Int) / 256) < 256 then (if 0 ≤ (Go.bits .and .u16 m 255) then (if (Go.bits .and .u16 m 255) < 256 then (some (((bt table ((m : Int) / 256)) + (bt table (Go.bits .and .u16 m 255))) % 256)) else (none)) else (none)) else (none)) else (none) := rfl
  unfold mask_Count.f
  rw [e0]
  have e1 : Go.bits .and .u16 m 255 = ((m % 256 : Nat) : Int) := by
    have := bits_mask .u16 16 (by decide) u16_in 8 (by decide) m (by omega) (by omega)
    rw [show (255 : Int) = 2 ^ 8 - 1 from rfl, this]; rfl
  have e2 : (m : Int) / 256 = ((m / 256 : Nat) : Int) := rfl
  rw [e1, e2, if_pos (by omega), if_pos (by omega), if_pos (by omega), if_pos (by omega), table_tells (m / 256) (by omega), table_tells (m % 256) (by omega), Option.bind_some]
  simp only [b2_low m _ (by decide : 0 < 8), b2_low m _ (by decide : 1 < 8), b2_low m _ (by decide : 2 < 8), b2_low m _ (by decide : 3 < 8), b2_low m _ (by decide : 4 < 8), b2_low m _ (by decide : 5 < 8), b2_low m _ (by decide : 6 < 8), b2_low m _ (by decide : 7 < 8), b2_high]
  refine congrArg some ?_
  have := b2_le m 0; have := b2_le m 1; have := b2_le m 2; have := b2_le m 3; have := b2_le m 4; have := b2_le m 5; have := b2_le m 6; have := b2_le m 7
  have := b2_le m 8; have := b2_le m 9; have := b2_le m 10; have := b2_le m 11; have := b2_le m 12; have := b2_le m 13; have := b2_le m 14; have := b2_le m 15
  unfold pop
  simp only [Nat.zero_add, Nat.reduceAdd]
  omega
theorem pop_le (m : Nat) : pop m ≤ 16 := by
  have := b2_le m 0; have := b2_le m 1; have := b2_le m 2; have := b2_le m 3; have := b2_le m 4; have := b2_le m 5; have := b2_le m 6; have := b2_le m 7
  have := b2_le m 8; have := b2_le m 9; have := b2_le m 10; have := b2_le m 11; have := b2_le m 12; have := b2_le m 13; have := b2_le m 14; have := b2_le m 15
  unfold pop; omega
theorem b2_or_and (a b i : Nat) : b2 (a ||| b) i + b2 (a &&& b) i = b2 a i + b2 b i := by
  unfold b2; rw [Nat.testBit_or, Nat.testBit_and]; cases a.testBit i <;> cases b.testBit i <;> rfl
theorem b2_less (a b i : Nat) (h : i < 16) : b2 (less a b) i + b2 (a &&& b) i = b2 a i := by
  unfold b2; rw [less_bits a b i h, Nat.testBit_and]; cases a.testBit i <;> cases b.testBit i <;> rfl
theorem pop_or_and (a b : Nat) : pop (a ||| b) + pop (a &&& b) = pop a + pop b := by
  have h := b2_or_and a b
  have := h 0; have := h 1; have := h 2; have := h 3; have := h 4; have := h 5; have := h 6; have := h 7; have := h 8; have := h 9; have := h 10; have := h 11; have := h 12; have := h 13; have := h 14; have := h 15
  unfold pop; omega
theorem pop_less (a b : Nat) : pop (less a b) + pop (a &&& b) = pop a := by
  have h := b2_less a b
  have := h 0 (by decide); have := h 1 (by decide); have := h 2 (by decide); have := h 3 (by decide); have := h 4 (by decide); have := h 5 (by decide); have := h 6 (by decide); have := h 7 (by decide)
  have := h 8 (by decide); have := h 9 (by decide); have := h 10 (by decide); have := h 11 (by decide); have := h 12 (by decide); have := h 13 (by decide); have := h 14 (by decide); have := h 15 (by decide)
  unfold pop; omega
theorem pop_all : ∀ c, c ≤ 16 → pop (2 ^ c - 1) = c := by decide +kernel
theorem all_pop (n : Int) : ∃ v : Nat, mask_All.f n = some (v : Int) ∧ v < 65536 ∧ (pop v : Int) = mn (mx n 0) 16 := by
  refine ⟨2 ^ cnt n - 1, all_tells n, all_lt n, ?_⟩
  rw [pop_all _ (cnt_le n)]
  unfold cnt mn mx; split <;> split <;> omega
theorem counts_core (x y z a b : Nat) (h1 : x + y = a + b) (h2 : z + y = a) (l1 : x ≤ 16) (l2 : y ≤ 16) (l3 : a ≤ 16) :
    wrap64 ((x : Int) + y) = wrap64 ((a : Int) + b) ∧ (z : Int) = wrap64 ((a : Int) - y) := by
  rw [wrap_in (n := (x : Int) + y) (by omega) (by omega), wrap_in (n := (a : Int) + b) (by omega) (by omega), wrap_in (n := (a : Int) - y) (by omega) (by omega)]
  omega
theorem bind_of {α β : Type} {x : Option α} {v : α} {f : α → Option β} {r : Option β} (h : x = some v) (h2 : f v = r) : x.bind f = r := by subst h; exact h2
theorem MaskCounts : frustumlaw08_MaskCounts.Pure := by
  intro a b n wa wb _
  obtain ⟨a, rfl, ha⟩ := wf_u16 wa
  obtain ⟨b, rfl, hb⟩ := wf_u16 wb
  have h1 := pop_or_and a b
  have h2 := pop_less a b
  have l1 := pop_le (a ||| b); have l2 := pop_le (a &&& b); have l3 := pop_le a;
  obtain ⟨v, hv, hv2, hv3⟩ := all_pop n
  have c1 := count_tells _ (or_lt ha hb)
  have c2 := count_tells _ (and_lt a hb)
  have c3 := count_tells _ (less_lt a b)
  have f1 := or_fn a b ha hb
  have f2 := and_fn a b ha hb
  have f3 := less_fn a b
  generalize hx : a ||| b = x at *
  generalize hy : a &&& b = y at *
  generalize hz : less a b = z at *
  have c4 := count_tells a ha
  have c5 := count_tells b hb
  have c6 := count_tells v hv2
  obtain ⟨e4, e5⟩ := counts_core _ _ _ _ _ h1 h2 l1 l2 l3
  unfold frustumlaw08_MaskCounts.f
  refine bind_of f1 (bind_of c1 (bind_of f2 (bind_of c2 (bind_of c4 (bind_of c5 ?_)))))
  rw [if_pos e4]
  refine bind_of f3 (bind_of c3 (bind_of c4 (bind_of f2 (bind_of c2 ?_))))
  rw [if_pos e5]
  refine bind_of hv (bind_of c6 ?_)
  rw [if_pos hv3]
  exact bind_of example_tells rfl

end Go.Proofs.Ytblfokhcfpajpaa.Pure
