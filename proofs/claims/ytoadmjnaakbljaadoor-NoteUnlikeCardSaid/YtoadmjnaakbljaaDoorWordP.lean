/- Plain laws of numbers' texts. -/
import Derived.Test.YtoadmjnaakbljaaDoorLexM
namespace Go.Proofs.YtoadmjnaakbljaaDoor

theorem valD_snoc (v : Nat) (l : List UInt8) (c : UInt8) : valD v (l ++ [c]) = valD v l * 10 + (c.toNat - 48) := by simp [valD]
theorem digC_nat {d : Nat} (h : d < 10) : (UInt8.ofNat (48 + d)).toNat = 48 + d := by simp; omega
theorem isDig_iff_ (c : UInt8) : isDig c = true ↔ 48 ≤ c.toNat ∧ c.toNat ≤ 57 := by simp [isDig]
theorem digF_dig : ∀ f u, (digF f u).all isDig = true
  | 0, u => rfl
  | f + 1, u => by
    rw [digF]
    split
    · simp only [List.all_cons, List.all_nil, Bool.and_true, isDig_iff_, digC_nat ‹_›]; omega
    · rw [List.all_append, digF_dig f]
      simp only [List.all_cons, List.all_nil, Bool.and_true, Bool.true_and, isDig_iff_, digC_nat (show u % 10 < 10 by omega)]; omega
theorem digF_val : ∀ f u, u < 10 ^ f → valD 0 (digF f u) = u
  | 0, u, h => by simp at h; subst h; rfl
  | f + 1, u, h => by
    rw [digF]
    split
    · simp only [valD, List.foldl_cons, List.foldl_nil, digC_nat ‹_›]; omega
    · rw [valD_snoc, digF_val f (u / 10) (by rw [Nat.pow_succ] at h; omega), digC_nat (by omega)]; omega
theorem digF_len : ∀ f u, (digF f u).length ≤ f
  | 0, u => by simp [digF]
  | f + 1, u => by
    rw [digF]
    split
    · simp
    · have := digF_len f (u / 10)
      rw [List.length_append]; simp; omega
theorem digF_more : ∀ f u, u < 10 ^ f → digF (f + 1) u = digF f u ∨ f = 0
  | 0, u, h => .inr rfl
  | f + 1, u, h => by
    left
    have e1 : digF (f + 1 + 1) u = if u < 10 then [UInt8.ofNat (48 + u)] else digF (f + 1) (u / 10) ++ [UInt8.ofNat (48 + u % 10)] := rfl
    have e2 : digF (f + 1) u = if u < 10 then [UInt8.ofNat (48 + u)] else digF f (u / 10) ++ [UInt8.ofNat (48 + u % 10)] := rfl
    rw [e1, e2]
    split
    · rfl
    · rcases digF_more f (u / 10) (by rw [Nat.pow_succ] at h; omega) with h1 | h1
      · rw [h1]
      · subst h1; simp at h; omega
theorem digF_less {f g u : Nat} (hu : u < 10 ^ f) (hf : 1 ≤ f) (hg : f ≤ g) : digF g u = digF f u := by
  obtain ⟨k, rfl⟩ : ∃ k, g = f + k := ⟨g - f, by omega⟩
  induction k with
  | zero => rfl
  | succ k ih =>
    have h1 : u < 10 ^ (f + k) := Nat.lt_of_lt_of_le hu (Nat.pow_le_pow_right (by omega) (by omega))
    rcases digF_more (f + k) u h1 with h2 | h2
    · rw [← ih (by omega)]; exact h2
    · omega
theorem digF_ne (f u : Nat) (hf : 1 ≤ f) : digF f u ≠ [] := by
  obtain ⟨k, rfl⟩ : ∃ k, f = k + 1 := ⟨f - 1, by omega⟩
  rw [digF]
  split <;> simp
theorem head_app {l m : List UInt8} (h : l ≠ []) : (l ++ m).head? = l.head? := by
  cases l with
  | nil => exact absurd rfl h
  | cons c r => rfl
theorem digF_head : ∀ f u, 0 < u → u < 10 ^ f → (digF f u).head? ≠ some 48
  | 0, u, h, h2 => by simp [digF]
  | f + 1, u, h, h2 => by
    rw [digF]
    split
    · intro e
      simp only [List.head?_cons, Option.some.injEq] at e
      have := congrArg UInt8.toNat e
      rw [digC_nat ‹_›] at this
      simp at this
      omega
    · have h3 : u / 10 < 10 ^ f := by rw [Nat.pow_succ] at h2; omega
      cases f with
      | zero => simp at h3; omega
      | succ f =>
        rw [head_app (digF_ne _ _ (by omega))]
        exact digF_head (f + 1) (u / 10) (by omega) h3
theorem pow19 : (10 : Nat) ^ 19 = 10000000000000000000 := by decide
theorem pow20 : (10 : Nat) ^ 20 = 100000000000000000000 := by decide
theorem mDigits_19 {u : Nat} (h : u < 10 ^ 19) : mDigits u = digF 19 u := digF_less h (by omega) (by omega)
theorem mDigits_val {u : Nat} (h : u < 10 ^ 20) : valD 0 (mDigits u) = u := digF_val 20 u h
theorem mDigits_dig (u : Nat) : (mDigits u).all isDig = true := digF_dig 20 u
theorem mDigits_ne (u : Nat) : mDigits u ≠ [] := digF_ne 20 u (by omega)
theorem mDigits_head {u : Nat} (h : 0 < u) (h2 : u < 10 ^ 20) : (mDigits u).head? ≠ some 48 := digF_head 20 u h h2
theorem mDigits_zero : mDigits 0 = [48] := by decide
theorem mDigits_len {u : Nat} (h : u < 10 ^ 19) : 1 ≤ (mDigits u).length ∧ (mDigits u).length ≤ 19 := by
  refine ⟨List.length_pos_iff.2 (mDigits_ne u), ?_⟩
  rw [mDigits_19 h]
  exact digF_len 19 u
theorem mDigits_notneg (u : Nat) : mNeg (mDigits u) = false := by
  have h1 := mDigits_dig u
  cases h : mDigits u with
  | nil => rfl
  | cons c r =>
    rw [h] at h1
    simp only [List.all_cons, Bool.and_eq_true, isDig_iff_] at h1
    simp only [mNeg, List.head?_cons]
    rw [beq_eq_false_iff_ne]
    intro e
    injection e with e
    subst e
    simp at h1

theorem parse_num {n : Int} (h1 : -9223372036854775808 ≤ n) (h2 : n ≤ 9223372036854775807) : mParseNum (mNum n) = some n := by
  have hp := pow19
  have hp2 := pow20
  have hu : n.natAbs < 10 ^ 19 := by rw [hp]; omega
  have hl := mDigits_len hu
  have hd := mDigits_dig n.natAbs
  have hv := mDigits_val (u := n.natAbs) (by rw [hp2]; omega)
  unfold mNum
  split
  · rename_i hneg
    have hh := mDigits_head (u := n.natAbs) (by omega) (by rw [hp2]; omega)
    have e1 : mNeg (126 :: mDigits n.natAbs) = true := rfl
    unfold mParseNum
    have e3 : mMag (126 :: mDigits n.natAbs) = mDigits n.natAbs := rfl
    rw [e3, e1, hd, hv]
    have e2 : numShape true (mDigits n.natAbs) = true := by
      unfold numShape
      simp [hl, hh]
    rw [e2, Bool.true_and, if_pos rfl]
    unfold numRange
    rw [if_pos rfl, if_pos (by omega)]
    congr 1
    omega
  · have e1 := mDigits_notneg n.natAbs
    unfold mParseNum
    have e3 : mMag (mDigits n.natAbs) = mDigits n.natAbs := by rw [mMag, e1]; rfl
    rw [e3, e1, hd, hv]
    have e2 : numShape false (mDigits n.natAbs) = true := by
      by_cases h0 : n.natAbs = 0
      · rw [h0]; decide
      · have hh := mDigits_head (u := n.natAbs) (by omega) (by rw [hp2]; omega)
        unfold numShape
        simp [hl, hh]
    rw [e2, Bool.true_and, if_pos rfl]
    unfold numRange
    rw [if_neg (by simp), if_pos (by omega)]
    congr 1
    omega

/-- digits with no nought ahead are the digits of their value -/
theorem valD_lead : ∀ (l : List UInt8), l.all isDig = true → l ≠ [] → l.head? ≠ some 48 → 0 < valD 0 l := by
  have mono : ∀ (l : List UInt8) (v : Nat), v ≤ valD v l := by
    intro l
    induction l with
    | nil => intro v; exact Nat.le_refl _
    | cons c r ih =>
      intro v
      have := ih (v * 10 + (c.toNat - 48))
      show v ≤ valD (v * 10 + (c.toNat - 48)) r
      omega
  intro l hd hne hh
  cases l with
  | nil => exact absurd rfl hne
  | cons c r =>
    have := mono r (0 * 10 + (c.toNat - 48))
    simp only [List.all_cons, Bool.and_eq_true, isDig_iff_] at hd
    have hc : c.toNat ≠ 48 := fun e => hh (by rw [List.head?_cons]; congr 1; exact UInt8.toNat_inj.1 e)
    show 0 < valD (0 * 10 + (c.toNat - 48)) r
    omega
theorem digF_of : ∀ (k : Nat) (l : List UInt8), l.length = k → l.all isDig = true → l ≠ [] → (l.head? ≠ some 48 ∨ k = 1) → ∀ f, k ≤ f → digF f (valD 0 l) = l ∧ valD 0 l < 10 ^ k
  | 0, l, hk, _, hne, _, _, _ => absurd (List.eq_nil_of_length_eq_zero hk) hne
  | k + 1, l, hk, hd, hne, hh, f, hf => by
    obtain ⟨f, rfl⟩ : ∃ g, f = g + 1 := ⟨f - 1, by omega⟩
    obtain ⟨i, c, rfl⟩ : ∃ i c, l = i ++ [c] := ⟨_, _, (List.dropLast_concat_getLast hne).symm⟩
    rw [List.length_append, List.length_singleton] at hk
    simp only [List.all_append, List.all_cons, List.all_nil, Bool.and_true, Bool.and_eq_true, isDig_iff_] at hd
    rw [valD_snoc]
    by_cases hi : i = []
    · subst hi
      simp only [List.length_nil] at hk
      obtain rfl : k = 0 := by omega
      have e : valD 0 [] = 0 := rfl
      rw [e, digF, if_pos (by omega)]
      refine ⟨?_, by omega⟩
      rw [List.nil_append]
      congr 1
      apply UInt8.toNat_inj.1
      rw [Nat.zero_mul, Nat.zero_add, digC_nat (by omega)]
      omega
    · have hki : k ≠ 0 := fun e => hi (List.eq_nil_of_length_eq_zero (by omega))
      have hh' : i.head? ≠ some 48 := by
        rcases hh with h | h
        · rwa [head_app hi] at h
        · omega
      have hp := valD_lead i hd.1 hi hh'
      obtain ⟨g, rfl⟩ : ∃ g, f = g + 1 := ⟨f - 1, by omega⟩
      obtain ⟨h1, h2⟩ := digF_of k i (by omega) hd.1 hi (.inl hh') (g + 1) (by omega)
      rw [digF, if_neg (by omega)]
      have e1 : (valD 0 i * 10 + (c.toNat - 48)) / 10 = valD 0 i := by omega
      have e2 : (valD 0 i * 10 + (c.toNat - 48)) % 10 = c.toNat - 48 := by omega
      rw [e1, e2, h1]
      refine ⟨?_, by rw [Nat.pow_succ]; omega⟩
      congr 2
      apply UInt8.toNat_inj.1
      rw [digC_nat (by omega)]
      omega
theorem mDigits_of {l : List UInt8} (h1 : 1 ≤ l.length) (h2 : l.length ≤ 20) (hd : l.all isDig = true) (hh : l.head? ≠ some 48 ∨ l.length = 1) : mDigits (valD 0 l) = l :=
  (digF_of l.length l rfl hd (List.length_pos_iff.1 h1) hh 20 h2).1
/-- what is read as a number is that number's text -/
theorem parse_inv {s : List UInt8} {n : Int} (h : mParseNum s = some n) : mNum n = s ∧ -9223372036854775808 ≤ n ∧ n ≤ 9223372036854775807 := by
  unfold mParseNum at h
  split at h
  · rename_i hc
    rw [Bool.and_eq_true] at hc
    obtain ⟨hs, hd⟩ := hc
    unfold numShape at hs
    simp only [Bool.and_eq_true, decide_eq_true_eq, Bool.not_eq_true', Bool.and_eq_false_iff, beq_eq_false_iff_ne, ne_eq, Bool.or_eq_false_iff, decide_eq_false_iff_not] at hs
    obtain ⟨⟨h1, h2⟩, h3⟩ := hs
    cases hn : mNeg s
    · have hm : mMag s = s := by rw [mMag, if_neg (by simp [hn])]
      rw [hm] at hd h1 h2 h3 h
      have hh : s.head? ≠ some 48 ∨ s.length = 1 := by
        rcases h3 with h | h
        · exact .inl h
        · exact .inr (by omega)
      have hof := mDigits_of h1 (by omega) hd hh
      rw [hn] at h
      unfold numRange at h
      rw [if_neg (by simp)] at h
      split at h
      · cases h
        refine ⟨?_, by omega, by omega⟩
        rw [mNum, if_neg (by omega), Int.natAbs_natCast, hof]
      · cases h
    · have hm : mMag s = s.tail := by rw [mMag, if_pos hn]
      rw [hm] at hd h1 h2 h3 h
      rw [hn] at h3 h
      have hh : s.tail.head? ≠ some 48 := by
        rcases h3 with h | h
        · exact h
        · simp at h
      have hof := mDigits_of h1 (by omega) hd (.inl hh)
      have hpos := valD_lead _ hd (List.length_pos_iff.1 h1) hh
      unfold numRange at h
      rw [if_pos rfl] at h
      split at h
      · cases h
        refine ⟨?_, by omega, by omega⟩
        rw [mNum, if_pos (by omega), Int.natAbs_neg, Int.natAbs_natCast, hof]
        unfold mNeg at hn
        rw [beq_iff_eq] at hn
        cases s with
        | nil => cases hn
        | cons c r => rw [List.head?_cons, Option.some.injEq] at hn; rw [hn]; rfl
      · cases h
  · cases h

end Go.Proofs.YtoadmjnaakbljaaDoor
