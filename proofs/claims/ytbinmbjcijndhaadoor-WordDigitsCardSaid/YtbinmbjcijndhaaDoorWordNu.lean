/- The law WordNums: a number's text is read as that number, unlike numbers have unlike texts, and these have digits alone, but for a sign. -/
import Derived.Test.YtbinmbjcijndhaaDoorWordE
namespace Go.Proofs.YtbinmbjcijndhaaDoor
open Go Go.RowKit

set_option maxHeartbeats 2000000
set_option maxRecDepth 100000

theorem numVE {n : Int} (h1 : -9223372036854775808 ≤ n) (h2 : n ≤ 9223372036854775807) : numV (mNum n) = n ∧ numE (mNum n) = 0 := by
  have h := parse_num h1 h2
  simp [numV, numE, h]
theorem mNum_inj {a b : Int} (h1 : -9223372036854775808 ≤ a) (h2 : a ≤ 9223372036854775807) (h3 : -9223372036854775808 ≤ b) (h4 : b ≤ 9223372036854775807) (h : mNum a = mNum b) : a = b := by
  have e1 := parse_num h1 h2
  have e2 := parse_num h3 h4
  rw [h, e2] at e1
  exact (Option.some.inj e1).symm
/-- what stands in a number's text -/
theorem mNum_shape (a : Int) : ∃ x r, mNum a = x :: r ∧ ((a < 0 ∧ x.toNat = 126) ∨ (0 ≤ a ∧ isDig x = true)) ∧ r.all isDig = true := by
  have hd := mDigits_dig a.natAbs
  unfold mNum
  split
  · exact ⟨126, _, rfl, .inl ⟨‹_›, rfl⟩, hd⟩
  · cases h : mDigits a.natAbs with
    | nil => exact absurd h (mDigits_ne _)
    | cons c r =>
      rw [h] at hd
      simp only [List.all_cons, Bool.and_eq_true] at hd
      exact ⟨c, r, rfl, .inr ⟨by omega, hd.1⟩, hd.2⟩
theorem mNum_20 (a : Int) : (mNum a).length ≤ 21 := by
  unfold mNum
  have := digF_len 20 a.natAbs
  split
  · rw [List.length_cons]; unfold mDigits; omega
  · unfold mDigits; omega

theorem wordNums_any (a b : Int) (w : World) (w0 : (Lit.int .i64 a).wf = true) (w1 : (Lit.int .i64 b).wf = true) (htab : tab10 w w.heap.size) :
    Calls Tryd.prog 3 #[.int .i64 a, .int .i64 b] w fun e w' => e = .returned (.bool true) ∧ Below w.heap.size w w' := by
  obtain ⟨ha1, ha2⟩ := wf_i64 w0
  obtain ⟨hb1, hb2⟩ := wf_i64 w1
  clear w0 w1
  obtain ⟨x, r, hxr, hx, hr⟩ := mNum_shape a
  obtain ⟨sb, hsb⟩ : ∃ sb, sb = mNum b := ⟨_, rfl⟩
  have hl1 : (x :: r).length ≤ 21 := by rw [← hxr]; exact mNum_20 a
  obtain ⟨hv, he⟩ := numVE ha1 ha2
  have hc1 := wordNum_any a ha1 ha2 w htab.here
  rw [hxr] at hc1
  have hc2 := fun W => wordParseNum_any (x :: r) W (by omega)
  rw [← hxr, hv, he, hxr] at hc2
  have hneg : a < 0 ∧ ((x.toNat : Int) == 126) = true ∨ ¬ a < 0 ∧ ((x.toNat : Int) == 126) = false := by
    rcases hx with ⟨h1, h2⟩ | ⟨h1, h2⟩
    · exact .inl ⟨h1, by rw [beq_iff_eq]; omega⟩
    · have := (isDig_iff_ x).1 h2
      exact .inr ⟨by omega, by rw [beq_eq_false_iff_ne]; omega⟩
  have hall : ∀ k y, (x :: r)[k]? = some y → (48 ≤ y.toNat ∧ y.toNat ≤ 57) ∨ (k = 0 ∧ a < 0 ∧ y.toNat = 126) := by
    intro k y hy
    cases k with
    | zero =>
      simp only [List.getElem?_cons_zero, Option.some.injEq] at hy
      subst hy
      rcases hx with ⟨h1, h2⟩ | ⟨h1, h2⟩
      · exact .inr ⟨rfl, h1, h2⟩
      · exact .inl ((isDig_iff_ x).1 h2)
    | succ k =>
      simp only [List.getElem?_cons_succ] at hy
      rw [List.all_eq_true] at hr
      exact .inl ((isDig_iff_ y).1 (hr y (List.mem_of_getElem? hy)))
  have hsame : a = b ∧ sb = x :: r ∨ ((a == b) = false ∧ (x :: r == sb) = false) := by
    by_cases h : a = b
    · exact .inl ⟨h, by rw [hsb, ← h, hxr]⟩
    · exact .inr ⟨by rw [beq_eq_false_iff_ne]; exact h, by rw [beq_eq_false_iff_ne]; exact fun e => h (mNum_inj ha1 ha2 hb1 hb2 (by rw [hxr, e, hsb]))⟩
  have c1 := hide hc1; have c2 := hide hc2; have hall' := hide hall; have ht := hide htab; have hsb' := hide hsb; have hxr' := hide hxr
  clear hc1 hc2 hall htab hx hr hv he hsb hxr
  have hl0 : ((r.length : Int) + 1 == 0) = false := by rw [beq_eq_false_iff_ne]; omega
  rcases hneg with ⟨n1, n2⟩ | ⟨n1, n2⟩ <;> rcases hsame with ⟨rfl, rfl⟩ | ⟨m1, m2⟩
  all_goals
    go_enter Tryd.func3, Tryd.ntmps3
    go_wp2_with fail
    refine (Calls.mono c1.out ?_)
    rintro e w1 ⟨rfl, hbw1⟩
    have hsz1 := hbw1.size
    have ht1 := hide (ht.out.on hbw1)
    go_wp2_with fail
    refine (Calls.mono (c2.out _) ?_)
    rintro e w' ⟨rfl, rfl⟩
    go_wp2_with fail
    refine (wordNum_any _ hb1 hb2 _ ht1.out.here).mono ?_
    rintro e w2 ⟨rfl, hbw2⟩
    have hb12 : Below w.heap.size w w2 := hbw1.trans (hbw2.mono hsz1)
    have hsz2 := hb12.size
    first | rw [← hsb'.out] | rw [hxr'.out]
    clear hbw1 hbw2
    go_wp2_with fail
    go_loop [8] (fun i => ∃ k : Nat, k ≤ (x :: r).length ∧ i = .int .i64 k) (fun i => (x :: r).length - (intOf i).toNat)
    case atStart => exact ⟨0, by omega, rfl⟩
    case round =>
      obtain ⟨k, hk, rfl⟩ := hrel
      by_cases hlt : k < (x :: r).length
      · obtain ⟨y, hy, _⟩ := str_at (x :: r) hlt
        have hy2 := hall'.out k y (by rw [List.getElem?_eq_getElem hlt, hy])
        have hlt' : (k : Int) < (r.length : Int) + 1 := by simp only [List.length_cons] at hlt; omega
        rcases hy2 with ⟨hy3, hy4⟩ | ⟨hk0, hy3, hy4⟩
        · have hy5 : (48 : Int) ≤ y.toNat := by omega
          have hy6 : (y.toNat : Int) ≤ 57 := by omega
          go_wp2_with fail
          go_round
          case rel => exact ⟨k + 1, by omega, by go_num⟩
          case measure => simp [intOf]; omega
        · first
            | omega
            | (have hy5 : (57 : Int) < y.toNat := by omega
               have hk1 : ¬ (0 : Int) < k := by omega
               have hk2 : ¬ (0 : Int) ≤ a := by omega
               clear hy4 hk0
               go_wp2_with fail
               go_round
               case rel => exact ⟨k + 1, by omega, by go_num⟩
               case measure => simp [intOf]; omega)
      · have hlt' : ¬ (k : Int) < (r.length : Int) + 1 := by simp only [List.length_cons] at hlt; omega
        go_wp2_with fail
        refine (wakesW_any _ (tabNow (ht.out.on hb12) hsz2)).mono ?_
        rintro e w3 ⟨rfl, hb3⟩
        go_wp2_with fail
        go_ret
        exact ⟨rfl, hb12.trans (hb3.mono hsz2)⟩

end Go.Proofs.YtbinmbjcijndhaaDoor
