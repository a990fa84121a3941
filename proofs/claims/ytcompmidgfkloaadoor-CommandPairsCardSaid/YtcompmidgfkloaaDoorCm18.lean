/- Plain facts on valid lists of commands, and parts of lists that came in. -/
import Derived.Test.YtcompmidgfkloaaDoorCm14
namespace Go.Proofs.YtcompmidgfkloaaDoor.Cm
open Go Go.RowKit Go.Proofs.YtcompmidgfkloaaDoor.Eng
set_option linter.unusedVariables false
set_option linter.unusedSimpArgs false
def insS (b : Bool) (x : S33) : Bool := if x.f0 = 7 then true else if x.f0 = 8 then false else b
def ins : Bool → List S33 → Bool
  | b, [] => b
  | b, x :: t => ins (insS b x) t
theorem ins_snoc : ∀ (a : List S33) (b : Bool) (x : S33), ins b (a ++ [x]) = insS (ins b a) x
  | [], b, x => rfl
  | y :: a, b, x => ins_snoc a (insS b y) x
theorem take_snoc {l : List S33} {i : Nat} (h : i < l.length) : l.take (i + 1) = l.take i ++ [l.getD i z33] := by
  rw [List.take_succ_eq_append_getElem h, List.getD_eq_getElem?_getD, List.getElem?_eq_getElem h]; rfl
theorem nxt_in {n j : Int} {s : St} (h : (nxtK n j s).1 = 0) : (nxtK n j s).2.inPass = if n = 7 then true else if n = 8 then false else s.inPass := by
  obtain ⟨p, b, a, q, u⟩ := s
  unfold nxtK at h ⊢
  by_cases c7 : n = 7
  · simp only [if_pos c7] at h ⊢
    cases p <;> simp_all
  simp only [if_neg c7] at h ⊢
  by_cases c13 : n = 13 ∨ n = 14 ∨ n = 10
  · have c8 : n ≠ 8 := by omega
    simp only [if_pos c13, if_neg c8] at h ⊢
    cases p <;> simp_all
  simp only [if_neg c13] at h ⊢
  by_cases c8 : n = 8
  · simp only [if_pos c8] at h ⊢
    cases p <;> cases a <;> simp_all
  simp only [if_neg c8] at h ⊢
  by_cases c9 : n = 9
  · simp only [if_pos c9] at h ⊢
    cases p <;> cases b <;> simp_all
  simp only [if_neg c9] at h ⊢
  by_cases c11 : n = 11
  · simp only [if_pos c11] at h ⊢
    cases p <;> cases a <;> cases u j <;> simp_all
  simp only [if_neg c11] at h ⊢
  by_cases c12 : n = 12
  · simp only [if_pos c12] at h ⊢
    cases p <;> cases a <;> cases (q != j) <;> simp_all
  simp only [if_neg c12] at h ⊢
  by_cases c1 : n = 1
  · simp only [if_pos c1] at h ⊢
  · simp only [if_neg c1] at h ⊢
theorem norm_in (s : St) : (norm s).inPass = s.inPass := rfl
theorem valG_nil (N i : Int) (s : St) : valG N [] i s = (N, if s.inPass = true then 16 else 0) := by
  unfold valG
  cases s.inPass <;> rfl
theorem val_pre (N : Int) : ∀ (t : List S33) (i : Int) (s : St) (p : Int), valG N t i s = (p, 0) → p = N ∧ ∀ (M : Int) (k : Nat), k ≤ t.length → valG M (t.take k) i s = (M, if ins s.inPass (t.take k) = true then 16 else 0)
  | [], i, s, p, h => by
    rw [valG_nil] at h
    refine ⟨(congrArg Prod.fst h).symm, fun M k hk => ?_⟩
    rw [List.take_nil, valG_nil]; rfl
  | x :: t, i, s, p, h => by
    have h0 : ∀ (M : Int), valG M ((x :: t).take 0) i s = (M, if ins s.inPass ((x :: t).take 0) = true then 16 else 0) := fun M => by
      rw [List.take_zero, valG_nil]; rfl
    unfold valG at h
    cases hc : chk x == 0 with
    | false =>
      rw [hc] at h
      have h9 : chk x = 0 := congrArg Prod.snd h
      rw [h9] at hc; cases hc
    | true =>
      rw [hc] at h
      cases hn : (nxtK x.f0 x.f2 s).1 != 0 with
      | true =>
        rw [hn] at h
        have h9 : (nxtK x.f0 x.f2 s).1 = 0 := congrArg Prod.snd h
        rw [h9] at hn; cases hn
      | false =>
        rw [hn] at h
        have h : valG N t (i + 1) (norm (nxtK x.f0 x.f2 s).2) = (p, 0) := h
        obtain ⟨h1, h2⟩ := val_pre N t (i + 1) _ p h
        refine ⟨h1, fun M k hk => ?_⟩
        cases k with
        | zero => exact h0 M
        | succ k =>
          have := h2 M k (by simpa using hk)
          rw [List.take_succ_cons]
          unfold valG
          rw [hc, hn]
          show valG M (t.take k) (i + 1) (norm (nxtK x.f0 x.f2 s).2) = _
          rw [this]
          have e : (norm (nxtK x.f0 x.f2 s).2).inPass = insS s.inPass x := by
            rw [norm_in, nxt_in (by simpa using hn)]; rfl
          rw [e]; rfl
theorem val_err (N : Int) : ∀ (t : List S33) (i : Int) (s : St) (p e : Int), valG N t i s = (p, e) → e ≠ 0 → N = i + t.length →
    (p = N ∧ e = 16 ∧ ∀ j : Nat, j < t.length → chk (t.getD j z33) = 0) ∨ (i ≤ p ∧ p < N ∧ (∀ j : Nat, (j : Int) < p - i → chk (t.getD j z33) = 0) ∧ ∀ M, valG M (t.take ((p - i).toNat + 1)) i s = (p, e))
  | [], i, s, p, e, h, he, hN => by
    rw [valG_nil] at h
    cases h
    cases hs : s.inPass with
    | true => exact .inl ⟨rfl, by simp, fun j hj => by simp at hj⟩
    | false => rw [hs] at he; simp at he
  | x :: t, i, s, p, e, h, he, hN => by
    simp only [List.length_cons, Int.natCast_add, Int.natCast_one] at hN
    unfold valG at h
    cases hc : chk x == 0 with
    | false =>
      rw [hc] at h
      cases h
      refine .inr ⟨by omega, by omega, fun j hj => by omega, fun M => ?_⟩
      rw [Int.sub_self, Int.toNat_zero, List.take_succ_cons]
      unfold valG
      rw [hc]; rfl
    | true =>
      rw [hc] at h
      cases hn : (nxtK x.f0 x.f2 s).1 != 0 with
      | true =>
        rw [hn] at h
        cases h
        refine .inr ⟨by omega, by omega, fun j hj => by omega, fun M => ?_⟩
        rw [Int.sub_self, Int.toNat_zero, List.take_succ_cons]
        unfold valG
        rw [hc, hn]; rfl
      | false =>
        rw [hn] at h
        have h : valG N t (i + 1) (norm (nxtK x.f0 x.f2 s).2) = (p, e) := h
        have hx : chk x = 0 := by simpa using hc
        rcases val_err N t (i + 1) _ p e h he (by omega) with ⟨h1, h2, h3⟩ | ⟨h1, h2, h3, h4⟩
        · refine .inl ⟨h1, h2, fun j hj => ?_⟩
          cases j with
          | zero => exact hx
          | succ j => exact h3 j (by simpa using hj)
        · refine .inr ⟨by omega, h2, fun j hj => ?_, fun M => ?_⟩
          · cases j with
            | zero => exact hx
            | succ j => exact h3 j (by omega)
          · rw [show (p - i).toNat + 1 = ((p - (i + 1)).toNat + 1) + 1 by omega, List.take_succ_cons]
            unfold valG
            rw [hc, hn]
            exact h4 M
theorem nxt_req {n j : Int} {s : St} (h : (nxtK n j s).1 = 0) : (n = 7 → s.inPass = false) ∧ (n = 8 → s.inPass = true) ∧ (n = 9 → s.inPass = true) := by
  obtain ⟨p, b, a, q, u⟩ := s
  unfold nxtK at h
  refine ⟨fun c => ?_, fun c => ?_, fun c => ?_⟩ <;> subst c <;> cases p <;> cases b <;> cases a <;> simp_all
theorem drawsN_append : ∀ (a b : List S33), drawsN (a ++ b) = drawsN a + drawsN b
  | [], b => by simp [drawsN]
  | x :: a, b => by
    rw [List.cons_append, drawsN_cons, drawsN_cons, drawsN_append a b]
    split <;> omega
def dr (l : List S33) (a b : Nat) : Int := drawsN ((l.take b).drop a)
theorem dr_succ {l : List S33} {a b : Nat} (hab : a ≤ b) (hb : b < l.length) : dr l a (b + 1) = dr l a b + if (l.getD b z33).f0 = 9 then 1 else 0 := by
  unfold dr
  rw [take_snoc hb, List.drop_append_of_le_length (by rw [List.length_take]; omega), drawsN_append]
  rw [drawsN_cons, drawsN_nil]
  split <;> omega
def Chain (l : List S33) : Int → List (Int × Int) → Prop
  | _, [] => True
  | last, (x, y) :: r => last < x ∧ 0 ≤ x ∧ x < y ∧ y < l.length ∧ (l.getD x.toNat z33).f0 = 7 ∧ (l.getD y.toNat z33).f0 = 8 ∧ Chain l y r
def sumD (l : List S33) : List (Int × Int) → Int
  | [] => 0
  | (x, y) :: r => dr l x.toNat y.toNat + sumD l r
theorem sumD_nonneg (l : List S33) : ∀ r, 0 ≤ sumD l r
  | [] => by simp [sumD]
  | (x, y) :: r => by
    have h1 := sumD_nonneg l r
    have h2 := (drawsN_le ((l.take y.toNat).drop x.toNat)).1
    unfold sumD dr
    omega
theorem pas_chain (l : List S33) (N : Int) : ∀ (t : List S33) (i : Nat) (s : St) (p b last : Int), valG N t i s = (p, 0) → l.drop i = t → i ≤ l.length →
    (s.inPass = true → 0 ≤ b ∧ b < i ∧ last < b ∧ (l.getD b.toNat z33).f0 = 7) → (s.inPass = false → last < i) →
    Chain l last (pas t i b) ∧ sumD l (pas t i b) = drawsN t + if s.inPass = true then dr l b.toNat i else 0
  | [], i, s, p, b, last, h, hd, hi, h1, h2 => by
    rw [valG_nil] at h
    cases hs : s.inPass with
    | true => rw [hs] at h; simp at h
    | false => exact ⟨trivial, by simp [pas, sumD, drawsN]⟩
  | x :: t, i, s, p, b, last, h, hd, hi, h1, h2 => by
    have hil : i < l.length := by
      rcases Nat.lt_or_ge i l.length with h | h
      · exact h
      · rw [List.drop_eq_nil_of_le h] at hd; cases hd
    have hx : l.getD i z33 = x := by
      rw [List.getD_eq_getElem?_getD, List.getElem?_eq_getElem hil]
      rw [List.drop_eq_getElem_cons hil] at hd
      cases hd; rfl
    have hd' : l.drop (i + 1) = t := by
      rw [List.drop_eq_getElem_cons hil] at hd
      cases hd; rfl
    unfold valG at h
    cases hc : chk x == 0 with
    | false =>
      rw [hc] at h
      have h9 : chk x = 0 := congrArg Prod.snd h
      rw [h9] at hc; cases hc
    | true =>
      rw [hc] at h
      cases hn : (nxtK x.f0 x.f2 s).1 != 0 with
      | true =>
        rw [hn] at h
        have h9 : (nxtK x.f0 x.f2 s).1 = 0 := congrArg Prod.snd h
        rw [h9] at hn; cases hn
      | false =>
        rw [hn] at h
        have hn0 : (nxtK x.f0 x.f2 s).1 = 0 := by simpa using hn
        have h : valG N t ((i + 1 : Nat) : Int) (norm (nxtK x.f0 x.f2 s).2) = (p, 0) := by
          rw [Int.natCast_add, Int.natCast_one]; exact h
        have hin : (norm (nxtK x.f0 x.f2 s).2).inPass = if x.f0 = 7 then true else if x.f0 = 8 then false else s.inPass := by rw [norm_in, nxt_in hn0]
        obtain ⟨r7, r8, r9⟩ := nxt_req hn0
        have ih := fun b last => pas_chain l N t (i + 1) _ p b last h hd' (by omega)
        rw [hin] at ih
        have ei : ((i + 1 : Nat) : Int) = (i : Int) + 1 := by omega
        rw [pas_cons, drawsN_cons]
        by_cases c7 : x.f0 = 7
        · have hs := r7 c7
          have c9 : ¬ x.f0 = 9 := by omega
          simp only [if_pos c7, if_neg c9, ei] at ih ⊢
          obtain ⟨q1, q2⟩ := ih i last (fun _ => ⟨by omega, by omega, h2 hs, by rw [Int.toNat_natCast, hx]; exact c7⟩) (fun h => by cases h)
          refine ⟨q1, ?_⟩
          rw [q2, hs, Int.toNat_natCast, dr_succ (Nat.le_refl i) hil, hx, if_neg c9]
          have : dr l i i = 0 := by unfold dr; rw [List.drop_eq_nil_of_le (by rw [List.length_take]; omega)]; rfl
          rw [this]; simp
        · by_cases c8 : x.f0 = 8
          · have hs := r8 c8
            have c9 : ¬ x.f0 = 9 := by omega
            simp only [if_neg c7, if_pos c8, if_neg c9, ei] at ih ⊢
            obtain ⟨b0, b1, b2, b3⟩ := h1 hs
            obtain ⟨q1, q2⟩ := ih b i (fun h => by cases h) (fun _ => by omega)
            refine ⟨⟨b2, b0, b1, by omega, b3, by rw [Int.toNat_natCast, hx]; exact c8, q1⟩, ?_⟩
            unfold sumD
            rw [q2, hs, Int.toNat_natCast]; simp; omega
          · simp only [if_neg c7, if_neg c8, ei] at ih ⊢
            obtain ⟨q1, q2⟩ := ih b last (fun h => by obtain ⟨b0, b1, b2, b3⟩ := h1 h; exact ⟨b0, by omega, b2, b3⟩) (fun h => by have := h2 h; omega)
            refine ⟨q1, ?_⟩
            rw [q2]
            cases hs : s.inPass with
            | true =>
              obtain ⟨b0, b1, _, _⟩ := h1 hs
              rw [dr_succ (by omega) hil, hx]
              simp
              split <;> omega
            | false =>
              by_cases c9 : x.f0 = 9
              · rw [r9 c9] at hs; cases hs
              · rw [if_neg c9]; simp
theorem pas_len : ∀ (t : List S33) (i b : Int), (pas t i b).length ≤ t.length
  | [], _, _ => Nat.le_refl _
  | x :: t, i, b => by
    have h1 := pas_len t (i + 1) i
    have h2 := pas_len t (i + 1) b
    rw [pas_cons]
    split
    · simp; omega
    · split <;> simp <;> omega
/-- A part of a list that came in. -/
theorem CmdsX.cut {O : Nat → Prop} {w0 : World} {B : Option Addr} {at_ : Nat → List SC} {n c : Nat} {l : List S33} (h : CmdsX O w0 (SX.v (.c (.rsl B 28 at_ 0 n c))) l) {a b : Nat} (hab : a ≤ b) (hb : b ≤ l.length) (hlt : a < b ∨ a = 0) (c' : Nat) :
    CmdsX O w0 (SX.v (.c (.rsl B 28 at_ a (b - a) c'))) ((l.take b).drop a) := by
  obtain ⟨hl, B', c0, As, cs, hd, hA⟩ := h
  have hlen : ((l.take b).drop a).length = b - a := by rw [List.length_drop, List.length_take, Nat.min_eq_left hb]
  have hget : ∀ j, j < b - a → ((l.take b).drop a).getD j z33 = l.getD (a + j) z33 := fun j hj => by
    rw [List.getD_eq_getElem?_getD, List.getD_eq_getElem?_getD, List.getElem?_drop, List.getElem?_take, if_pos (by omega)]
  have hB : B = B' := by
    have h1 : Value.slice (B.map (·.add (0 * 28))) n c = .slice (B'.map (·.add (0 * 28))) l.length c0 := hd nob
    injection h1 with h1 _ _
    have e : ∀ X : Option Addr, X.map (·.add (0 * 28)) = X := fun X => by cases X <;> simp [Addr.add]
    rw [e, e] at h1
    exact h1
  subst hB
  refine ⟨by rw [hlen]; omega, B.map (·.add (a * 28)), c', fun j => As (a + j), fun j => cs (a + j), fun β => ?_, fun j hj => ?_⟩
  · show Value.slice (B.map (·.add (a * 28))) (b - a) c' = .slice ((B.map (·.add (a * 28))).map (·.add (0 * 28))) _ c'
    have e : ∀ X : Option Addr, X.map (·.add (0 * 28)) = X := fun X => by cases X <;> simp [Addr.add]
    rw [e, hlen]
  · rw [hlen] at hj
    obtain ⟨q1, q2, q3, q4⟩ := hA (a + j) (by omega)
    rw [hget j hj]
    refine ⟨by simpa using q1, ?_, q3, q4⟩
    have er : rowsC (fun j => ((l.take b).drop a).getD j z33) (fun j => As (a + j)) (fun j => cs (a + j)) j = rowsC (fun j => l.getD j z33) As cs (a + j) := by
      unfold rowsC
      simp only [hget j hj]
    rw [er]
    obtain ⟨⟨ad, hA, h1, h2, h3, h4⟩⟩ := q2
    subst hA
    have hbl : (ad.add (a * 28)).block = ad.block := by unfold Addr.add; split <;> rfl
    refine ⟨⟨ad.add (a * 28), rfl, by rw [hbl]; exact h1, by rw [hbl]; exact h2, h3, fun i c hi => ?_⟩⟩
    rw [Addr.add_add, show a * 28 + (j * 28 + i) = (a + j) * 28 + i by rw [Nat.add_mul]; omega]
    exact h4 i c hi
theorem CmdsX.take {O : Nat → Prop} {w0 : World} {B : Option Addr} {at_ : Nat → List SC} {n c : Nat} {l : List S33} (h : CmdsX O w0 (SX.v (.c (.rsl B 28 at_ 0 n c))) l) {k : Nat} (hk : k ≤ l.length) :
    CmdsX O w0 (SX.v (.c (.rsl B 28 at_ 0 k c))) (l.take k) := by
  have := h.cut (Nat.zero_le k) hk (.inr rfl) c
  simpa using this
end Go.Proofs.YtcompmidgfkloaaDoor.Cm
