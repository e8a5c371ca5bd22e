/- Walks: one token, by the program. -/
import Derived.Test.YtbinmbjcijndhaaDoorLexW5
import Derived.Deep.DeepCutAuto
import Derived.Deep.CutBlock
import Derived.StillTailTactics
namespace Go.Proofs.YtbinmbjcijndhaaDoor
open Go Go.RowKit

set_option maxHeartbeats 1000000
set_option maxRecDepth 100000

/-- a part of a row of bytes -/
theorem RdB.sub {w : World} {ad : Addr} {bs : List UInt8} (h : RdB w (some ad) bs) (i m : Nat) : RdB w (some (ad.add i)) ((bs.drop i).take m) := by
  intro j hj
  rw [List.length_take, List.length_drop] at hj
  obtain ⟨ad', hA, hc⟩ := h (i + j) (by omega)
  cases hA
  refine ⟨_, rfl, ?_⟩
  rw [add_of_add, hc]
  simp
theorem RdB.alloc {w : World} {A : Option Addr} {bs : List UInt8} (h : RdB w A bs) (o : Obj) : RdB (w.alloc o) A bs := h.below ((Below.refl _ _).alloc (Nat.le_refl _) _)
theorem RdB.some_ {w : World} {A : Option Addr} {bs : List UInt8} (h : RdB w A bs) {i : Nat} (hi : i < bs.length) : ∃ ad, A = some ad := by
  obtain ⟨ad, hA, _⟩ := h i hi
  exact ⟨ad, hA⟩
theorem take_step {bs : List UInt8} {i k : Nat} {y : UInt8} (hik : i ≤ k) (hd : bs.drop k = y :: bs.drop (k + 1)) : (bs.drop i).take (k + 1 - i) = (bs.drop i).take (k - i) ++ [y] := by
  have e : (bs.drop i).drop (k - i) = y :: bs.drop (k + 1) := by rw [List.drop_drop, ← hd]; congr 1; omega
  have e2 : k + 1 - i = (k - i) + 1 := by omega
  rw [e2, List.take_add, e]
  simp

/-- a token's value -/
abbrev tokV (k a b : Int) (s : List UInt8) (n : Int) : Value := .agg #[.int .i64 k, .int .i64 a, .int .i64 b, str s, .int .i64 n]
/-- what reading one token gives: the token, if there is one -/
def LexRes (m : Option (BTok × Nat)) (i : Nat) (e : Ending) : Prop :=
  ∃ (k a b : Int) (s : List UInt8) (n : Int), e = .returned (.tuple #[tokV k a b s n, .bool m.isSome]) ∧ ∀ t len, m = some (t, len) → k = t.k ∧ a = i ∧ b = (i + len : Nat) ∧ s = t.s ∧ n = t.n

theorem still_left {P : Program} {f : FuncId} {args : Array Value} {w : World} {v : Value} (h : Calls P f args w fun e w' => e = .returned v ∧ w = w') :
    Calls P f args w fun e w' => e = .returned v ∧ w' = w := h.mono fun _ _ ⟨he, hm⟩ => ⟨he, hm.symm⟩
/-- a block that the caller made, behind a call that leaves what there was -/
theorem kept_cells {w w1 : World} {cs : Array Value} {T : TypeId} (h : Below (w.alloc (.cells cs T)).heap.size (w.alloc (.cells cs T)) w1) :
    (∀ j, w1.cell? ⟨w.heap.size, j, none⟩ = cs[j]?) ∧ (∀ j, w1.frozen? ⟨w.heap.size, j, none⟩ = false) ∧ w.heap.size < w1.heap.size ∧ Below w.heap.size w w1 := by
  have hlt : w.heap.size < (w.alloc (.cells cs T)).heap.size := by simp
  refine ⟨fun j => ?_, fun j => ?_, ?_, ((Below.refl _ _).alloc (Nat.le_refl _) _).trans (h.mono (by simp))⟩
  · rw [h.cell (p := ⟨w.heap.size, j, none⟩) hlt]
    exact cell_of_row _ w.heap.size j cs T (0, 0) (heap_alloc_new w _)
  · rw [h.frozen (p := ⟨w.heap.size, j, none⟩) hlt]
    unfold World.frozen?
    rw [heap_alloc_new]
    simp
  · have := h.size
    simp at this
    omega

theorem span_cases {w : World} {ad : Addr} {bs : List UInt8} (hb : RdB w (some ad) bs) (k : Nat) (p : UInt8 → Bool) :
    (∃ y, k < bs.length ∧ (∀ o, (w.alloc o).cell? (ad.add k) = some (.int .u8 (y.toNat : Int))) ∧ Hid (bs.drop k = y :: bs.drop (k + 1)) ∧ Hid (p y = true)) ∨
    (∃ y, k < bs.length ∧ (∀ o, (w.alloc o).cell? (ad.add k) = some (.int .u8 (y.toNat : Int))) ∧ Hid (bs.drop k = y :: bs.drop (k + 1)) ∧ Hid (p y = false) ∧ Hid ((bs.drop k).takeWhile p = [])) ∨
    (bs.length ≤ k ∧ Hid ((bs.drop k).takeWhile p = [])) := by
  by_cases hlt : k < bs.length
  · obtain ⟨ad', y, hA, hc, hdy⟩ := hb.at hlt
    cases hA
    have hc' : ∀ o, (w.alloc o).cell? (ad.add k) = some (.int .u8 (y.toNat : Int)) := fun o => by
      rw [World.cell?_alloc_lt w o _ (World.block_lt_of_cell? w _ hc)]
      exact hc
    cases hp : p y
    · exact .inr (.inl ⟨y, hlt, hc', hide hdy, hide hp, hide (by rw [hdy]; simp [hp])⟩)
    · exact .inl ⟨y, hlt, hc', hide hdy, hide hp⟩
  · exact .inr (.inr ⟨by omega, hide (by rw [List.drop_eq_nil_of_le (by omega)]; rfl)⟩)

/-- the read part of a row as a text -/
theorem conv_sub {w : World} {ad : Addr} {bs : List UInt8} (hb : RdB w (some ad) bs) (i m d : Nat) (hm : i + m ≤ bs.length) :
    ∃ s, s = (bs.drop i).take m ∧ s.length = m ∧ ∀ o, (convert 28 9 (.slice (some (ad.add i)) m d)).run Tryd.prog (w.alloc o) = .ok (str s) (w.alloc o) := by
  refine ⟨_, rfl, by simp; omega, fun o => ?_⟩
  exact run_conv ((hb.alloc o).sub i m) (by simp; omega) Tryd.underlying28 Tryd.underlying5 Tryd.underlying9

theorem mWord_key {s : List UInt8} (h : mKey s = true) : mWord s = some (⟨2, s, 0⟩, s.length) := by rw [mWord, if_pos h]
theorem mWord_name {s : List UInt8} (h : mKey s = false) (h2 : mName s = true) : mWord s = some (⟨1, s, 0⟩, s.length) := by rw [mWord, if_neg (by simp [h]), if_pos h2]
theorem mWord_none {s : List UInt8} (h : mKey s = false) (h2 : mName s = false) : mWord s = none := by rw [mWord, if_neg (by simp [h]), if_neg (by simp [h2])]

theorem LexRes.mk_some {m : Option (BTok × Nat)} {t : BTok} {len : Nat} (h : m = some (t, len)) (i : Nat) : LexRes m i (.returned (.tuple #[tokV t.k i (i + len : Nat) t.s t.n, .bool true])) := by
  subst h
  refine ⟨_, _, _, _, _, rfl, ?_⟩
  intro t' len' h
  cases h
  exact ⟨rfl, rfl, rfl, rfl, rfl⟩
theorem LexRes.mk_none {m : Option (BTok × Nat)} (h : m = none) (i : Nat) (k a b : Int) (s : List UInt8) (n : Int) : LexRes m i (.returned (.tuple #[tokV k a b s n, .bool false])) := by
  subst h
  refine ⟨_, _, _, _, _, rfl, ?_⟩
  intro t' len' h
  cases h

theorem LexRes.mk_if {m : Option (BTok × Nat)} {t : BTok} {len : Nat} {b : Bool} (h : m = if b then some (t, len) else none) (i : Nat) : LexRes m i (.returned (.tuple #[tokV t.k i (i + len : Nat) t.s t.n, .bool b])) := by
  cases b
  · exact LexRes.mk_none h _ _ _ _ _ _
  · exact LexRes.mk_some h i

/-- a byte other than the quote -/
def notQ (x : UInt8) : Bool := x.toNat != 34
theorem oneSign_cases (x : UInt8) : (oneSign x = true ∧ (x.toNat = 40 ∨ x.toNat = 41 ∨ x.toNat = 91 ∨ x.toNat = 93 ∨ x.toNat = 44 ∨ x.toNat = 58 ∨ x.toNat = 61 ∨ x.toNat = 124 ∨ x.toNat = 43 ∨ x.toNat = 45 ∨ x.toNat = 42 ∨ x.toNat = 47 ∨ x.toNat = 60 ∨ x.toNat = 63 ∨ x.toNat = 95)) ∨
    (oneSign x = false ∧ x.toNat ≠ 40 ∧ x.toNat ≠ 41 ∧ x.toNat ≠ 91 ∧ x.toNat ≠ 93 ∧ x.toNat ≠ 44 ∧ x.toNat ≠ 58 ∧ x.toNat ≠ 61 ∧ x.toNat ≠ 124 ∧ x.toNat ≠ 43 ∧ x.toNat ≠ 45 ∧ x.toNat ≠ 42 ∧ x.toNat ≠ 47 ∧ x.toNat ≠ 60 ∧ x.toNat ≠ 63 ∧ x.toNat ≠ 95) := by
  have key : ∀ n : Fin 256, (oneSign (UInt8.ofNat n.val) = true ∧ (n.val = 40 ∨ n.val = 41 ∨ n.val = 91 ∨ n.val = 93 ∨ n.val = 44 ∨ n.val = 58 ∨ n.val = 61 ∨ n.val = 124 ∨ n.val = 43 ∨ n.val = 45 ∨ n.val = 42 ∨ n.val = 47 ∨ n.val = 60 ∨ n.val = 63 ∨ n.val = 95)) ∨
    (oneSign (UInt8.ofNat n.val) = false ∧ n.val ≠ 40 ∧ n.val ≠ 41 ∧ n.val ≠ 91 ∧ n.val ≠ 93 ∧ n.val ≠ 44 ∧ n.val ≠ 58 ∧ n.val ≠ 61 ∧ n.val ≠ 124 ∧ n.val ≠ 43 ∧ n.val ≠ 45 ∧ n.val ≠ 42 ∧ n.val ≠ 47 ∧ n.val ≠ 60 ∧ n.val ≠ 63 ∧ n.val ≠ 95) := by decide +kernel
  have := key ⟨x.toNat, x.toNat_lt⟩
  simpa using this

theorem twoSign_cases (x y : UInt8) : (twoSign x y = true ∧ ((x.toNat = 45 ∧ y.toNat = 62) ∨ (x.toNat = 58 ∧ y.toNat = 58) ∨ (x.toNat = 61 ∧ y.toNat = 61))) ∨
    (twoSign x y = false ∧ (x.toNat = 45 → y.toNat ≠ 62) ∧ (x.toNat = 58 → y.toNat ≠ 58) ∧ (x.toNat = 61 → y.toNat ≠ 61)) := by
  have e : ∀ (z : UInt8) (n : Nat) (hn : n < 256), (z == UInt8.ofNat n) = decide (z.toNat = n) := by
    intro z n hn
    rw [Bool.eq_iff_iff, beq_iff_eq, decide_eq_true_eq, ← UInt8.toNat_inj]
    simp [Nat.mod_eq_of_lt hn]
  have h : twoSign x y = ((decide (x.toNat = 45) && decide (y.toNat = 62)) || (decide (x.toNat = 58) && decide (y.toNat = 58)) || (decide (x.toNat = 61) && decide (y.toNat = 61))) := by
    rw [← e x 45 (by omega), ← e y 62 (by omega), ← e x 58 (by omega), ← e y 58 (by omega), ← e x 61 (by omega), ← e y 61 (by omega)]
    rfl
  rw [h]
  by_cases h1 : x.toNat = 45 <;> by_cases h2 : y.toNat = 62 <;> by_cases h3 : x.toNat = 58 <;> by_cases h4 : y.toNat = 58 <;> by_cases h5 : x.toNat = 61 <;> by_cases h6 : y.toNat = 61 <;> simp [h1, h2, h3, h4, h5, h6]
theorem mSign_two {x y : UInt8} {r : List UInt8} (h : twoSign x y = true) : mSign (x :: y :: r) = some (⟨5, [x, y], 0⟩, 2) := by
  have e : signLen (x :: y :: r) = 2 := by simp [signLen, h]
  rw [mSign, e]
  rfl
theorem mSign_one {x y : UInt8} {r : List UInt8} (h : twoSign x y = false) (h1 : oneSign x = true) : mSign (x :: y :: r) = some (⟨5, [x], 0⟩, 1) := by
  have e : signLen (x :: y :: r) = 1 := by simp [signLen, h, h1]
  rw [mSign, e]
  rfl
theorem mSign_last {x : UInt8} (h1 : oneSign x = true) : mSign [x] = some (⟨5, [x], 0⟩, 1) := by
  have e : signLen [x] = 1 := by simp [signLen, h1]
  rw [mSign, e]
  rfl

end Go.Proofs.YtbinmbjcijndhaaDoor
