/- The law WordTexts: a text's text is read as that text, and what stands in it. -/
import Derived.Test.YtbinmbjcijndhaaDoorWordE
namespace Go.Proofs.YtbinmbjcijndhaaDoor
open Go Go.RowKit

set_option maxHeartbeats 2000000
set_option maxRecDepth 100000

theorem esc_in (c : UInt8) : ∀ x ∈ esc c, 32 ≤ x.toNat ∧ x.toNat ≤ 126 ∧ x.toNat ≠ 34 := by
  have hx : ∀ n, n < 16 → 32 ≤ (hexD n).toNat ∧ (hexD n).toNat ≤ 126 ∧ (hexD n).toNat ≠ 34 := by decide
  intro x hx1
  unfold esc at hx1
  split at hx1
  · rename_i hp
    simp only [List.mem_singleton] at hx1
    subst hx1
    have := (isPlain_iff' x).1 hp
    omega
  · have hc := c.toNat_lt
    simp only [List.mem_cons, List.not_mem_nil, or_false] at hx1
    rcases hx1 with rfl | rfl | rfl
    · decide
    · exact hx _ (by omega)
    · exact hx _ (by omega)
theorem long_ge (t : List UInt8) : t.length + 2 ≤ (mLong t).length ∧ (mLong t).length ≤ 3 * t.length + 2 := by
  have h : t.length ≤ (t.flatMap esc).length ∧ (t.flatMap esc).length ≤ 3 * t.length := by
    induction t with
    | nil => simp
    | cons c r ih =>
      have hc : 1 ≤ (esc c).length ∧ (esc c).length ≤ 3 := by unfold esc; split <;> simp
      rw [List.flatMap_cons, List.length_append, List.length_cons]
      omega
  simp only [mLong, List.length_cons, List.length_append, List.length_nil]
  omega
theorem long_in (t : List UInt8) : ∀ k y, (mLong t)[k]? = some y → 32 ≤ y.toNat ∧ y.toNat ≤ 126 ∧ (y.toNat = 34 → k = 0 ∨ k + 1 = (mLong t).length) := by
  intro k y hy
  unfold mLong at hy ⊢
  cases k with
  | zero =>
    simp only [List.getElem?_cons_zero, Option.some.injEq] at hy
    subst hy
    exact ⟨by decide, by decide, fun _ => .inl rfl⟩
  | succ k =>
    simp only [List.getElem?_cons_succ] at hy
    rcases Nat.lt_or_ge k (t.flatMap esc).length with h | h
    · rw [List.getElem?_append_left h] at hy
      obtain ⟨c, _, hc⟩ := List.mem_flatMap.1 (List.mem_of_getElem? hy)
      have := esc_in c y hc
      exact ⟨by omega, by omega, fun e => by omega⟩
    · rw [List.getElem?_append_right h] at hy
      have hk : k - (t.flatMap esc).length = 0 := by
        rcases Nat.eq_zero_or_pos (k - (t.flatMap esc).length) with h0 | h0
        · exact h0
        · rw [List.getElem?_eq_none (by rw [List.length_singleton]; omega)] at hy; cases hy
      rw [hk] at hy
      simp only [List.getElem?_cons_zero, Option.some.injEq] at hy
      subst hy
      refine ⟨by decide, by decide, fun _ => .inr ?_⟩
      simp only [List.length_cons, List.length_append, List.length_nil]
      omega
theorem long_last (t : List UInt8) : (mLong t)[(mLong t).length - 1]? = some 34 := by
  rw [← List.getLast?_eq_getElem?]
  simp [mLong, List.getLast?_cons]

theorem wordTexts_any (a0 : ByteArray) (w : World) (w0 : a0.size ≤ maxLen) (htab : tab10 w w.heap.size) :
    Calls Tryd.prog 7 #[.string a0] w fun e w' => e = .returned (.bool true) ∧ Below w.heap.size w w' := by
  obtain ⟨s, rfl⟩ := str_bytes a0
  have hsl : s.length ≤ 9223372036854775807 := by simpa [ByteArray.size, maxLen] using w0
  clear w0
  by_cases hbig : 500 < s.length
  · have hbig' : (500 : Int) < s.length := by omega
    clear htab
    go_enter Tryd.func7, Tryd.ntmps7
    go_wp2_with fail
    go_ret
    exact ⟨rfl, Below.refl _ _⟩
  have hbig' : (s.length : Int) ≤ 500 := by omega
  have ht := hide htab; clear htab
  by_cases h2 : 200 < s.length
  · have h2' : (200 : Int) < s.length := by omega
    have hq1 : quoV s = [] := by simp [quoV, mQuote, show ¬ s.length ≤ 200 by omega]
    have hq2 : quoE s = 2 := by simp [quoE, mQuote, show ¬ s.length ≤ 200 by omega]
    have hc := wordQuote_any s w hsl
    rw [hq1, hq2] at hc
    have hc' := hide hc; clear hc hq1 hq2
    go_enter Tryd.func7, Tryd.ntmps7
    go_wp2_with fail
    refine (Calls.mono hc'.out ?_)
    rintro e w1 ⟨rfl, hb1⟩
    go_wp2_with fail
    refine (wakesW_any _ (tabNow (ht.out.on hb1) hb1.size)).mono ?_
    rintro e w2 ⟨rfl, hb2⟩
    go_wp2_with fail
    go_ret
    exact ⟨rfl, hb1.trans (hb2.mono hb1.size)⟩
  have h2' : (s.length : Int) ≤ 200 := by omega
  have hs2 : s.length ≤ 200 := by omega
  have hq1 : quoV s = mLong s := by simp [quoV, mQuote, hs2]
  have hq2 : quoE s = 0 := by simp [quoE, mQuote, hs2]
  have hu := unqVE_some (mUnquote_long s hs2)
  obtain ⟨l1, l2⟩ := long_ge s
  have hin := long_in s
  have hlast := long_last s
  obtain ⟨r, hr⟩ : ∃ r, mLong s = 34 :: r := ⟨_, rfl⟩
  have hc := wordQuote_any s w hsl
  rw [hq1, hq2] at hc
  have hcu := fun W => wordUnquote_any (mLong s) W (by omega)
  rw [hu.1, hu.2] at hcu
  rw [hr] at hc hcu l1 l2 hin hlast
  have hlast2 : ∀ h, (34 :: r)[(34 :: r).length - 1]'h = 34 := fun h => by
    rw [List.getElem?_eq_getElem h] at hlast
    exact Option.some.inj hlast
  have hlast3 : ∀ h, (34 :: r)[r.length]'h = 34 := fun h => by
    have := hlast2 (by simp)
    simpa using this
  have hc' := hide hc; have hcu' := hide hcu; have hin' := hide hin; have hr' := hide hr
  clear hc hcu hin hq1 hq2 hu hlast hlast2 hr
  simp only [List.length_cons] at l1 l2
  have l1' : (s.length : Int) + 2 ≤ (r.length : Int) + 1 := by omega
  have l2' : (r.length : Int) + 1 ≤ 3 * (s.length : Int) + 2 := by omega
  go_enter Tryd.func7, Tryd.ntmps7
  go_wp2_with fail
  refine (Calls.mono hc'.out ?_)
  rintro e w1 ⟨rfl, hb1⟩
  have hsz1 := hb1.size
  go_wp2_with fail
  refine (Calls.mono (hcu'.out _) ?_)
  rintro e w2 ⟨rfl, hb2⟩
  have hb12 : Below w.heap.size w w2 := hb1.trans (hb2.mono hsz1)
  have hsz2 := hb12.size
  clear hb1 hb2
  go_wp2_with fail
  go_loop [7] (fun i => ∃ k : Nat, k ≤ (34 :: r).length ∧ i = .int .i64 k) (fun i => (34 :: r).length - (intOf i).toNat)
  case atStart => exact ⟨0, by omega, rfl⟩
  case round =>
    obtain ⟨k, hk, rfl⟩ := hrel
    by_cases hlt : k < (34 :: r).length
    · obtain ⟨y, hy, _⟩ := str_at (34 :: r) hlt
      obtain ⟨y1, y2, y3⟩ := hin'.out k y (by rw [List.getElem?_eq_getElem hlt, hy])
      have hlt' : (k : Int) < (r.length : Int) + 1 := by simp only [List.length_cons] at hlt; omega
      have y1' : (32 : Int) ≤ y.toNat := by omega
      have y2' : (y.toNat : Int) ≤ 126 := by omega
      by_cases y34 : y.toNat = 34
      · have y4 : ((y.toNat : Int) == 34) = true := by rw [beq_iff_eq]; omega
        have hke := y3 y34
        simp only [List.length_cons] at hke
        have hy' := hide y34; clear y34 y3
        rcases Nat.eq_zero_or_pos k with h0 | h0
        · have hk0 : ¬ (0 : Int) < k := by omega
          clear h0 hke
          go_wp2_with fail
          go_round
          case rel => exact ⟨k + 1, by omega, by go_num⟩
          case measure => simp [intOf]; omega
        · have hk0 : (0 : Int) < k := by omega
          have hk1 : (r.length : Int) ≤ k := by omega
          clear h0 hke
          go_wp2_with fail
          go_round
          case rel => exact ⟨k + 1, by omega, by go_num⟩
          case measure => simp [intOf]; omega
      · have y4 : ((y.toNat : Int) == 34) = false := by rw [beq_eq_false_iff_ne]; omega
        clear y34 y3
        go_wp2_with fail
        go_round
        case rel => exact ⟨k + 1, by omega, by go_num⟩
        case measure => simp [intOf]; omega
    · have hlt' : ¬ (k : Int) < (r.length : Int) + 1 := by simp only [List.length_cons] at hlt; omega
      go_wp2_with fail
      refine (wakesW_any _ (tabNow (ht.out.on hb12) hsz2)).mono ?_
      rintro e w3 ⟨rfl, hb3⟩
      go_wp2_with fail
      go_ret
      exact ⟨rfl, hb12.trans (hb3.mono hsz2)⟩

end Go.Proofs.YtbinmbjcijndhaaDoor
