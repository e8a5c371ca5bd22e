/- Walks: the reading of numbers, of the program and of the reference. -/
import Derived.Test.YtoadmjnaakbljaaDoorLexW2
namespace Go.Proofs.YtoadmjnaakbljaaDoor
open Go Go.RowKit

set_option maxHeartbeats 1000000
set_option maxRecDepth 100000

theorem isDig_iff (c : UInt8) : isDig c = true ↔ 48 ≤ c.toNat ∧ c.toNat ≤ 57 := by simp [isDig]
theorem valD_bound (d : List UInt8) (h : d.all isDig = true) (v k : Nat) (hv : v + 1 ≤ 10 ^ k) : valD v d + 1 ≤ 10 ^ (k + d.length) := by
  induction d generalizing v k with
  | nil => simpa [valD] using hv
  | cons c r ih =>
    simp only [List.all_cons, Bool.and_eq_true, isDig_iff] at h
    have e : valD v (c :: r) = valD (v * 10 + (c.toNat - 48)) r := rfl
    have e2 : k + (c :: r).length = (k + 1) + r.length := by simp; omega
    rw [e, e2]
    refine ih h.2 _ _ ?_
    rw [Nat.pow_succ]
    omega
theorem pow_le_18 (k : Nat) (h : k ≤ 18) : 10 ^ k ≤ 1000000000000000000 := by
  have := Nat.pow_le_pow_right (n := 10) (by omega) h
  simpa using this
/-- what ParseNum gives -/
def numV (s : List UInt8) : Int := (mParseNum s).getD 0
def numE (s : List UInt8) : Int := if (mParseNum s).isSome then 0 else 3
theorem numVE_some {s : List UInt8} {v : Int} (h : mParseNum s = some v) : numV s = v ∧ numE s = 0 := by simp [numV, numE, h]
theorem numVE_none {s : List UInt8} (h : mParseNum s = none) : numV s = 0 ∧ numE s = 3 := by simp [numV, numE, h]
theorem mNeg_cons (c : UInt8) (d : List UInt8) : mNeg (c :: d) = decide (c.toNat = 126) := by
  have : (c = 126) ↔ (c.toNat = 126) := by rw [← UInt8.toNat_inj]; rfl
  simp only [mNeg, List.head?_cons]
  by_cases h : c = 126
  · simp [h]
  · rw [Bool.eq_iff_iff]; simp [h, ← this]
theorem ret_two {a b : Value} {a' b' : Value} (h : a = a') (h2 : b = b') : Ending.returned (.tuple #[a, b]) = .returned (.tuple #[a', b']) := by rw [h, h2]
theorem wrap_neg_u64 (v : Nat) (h : v ≤ 9223372036854775808) : wrap64 (IntKind.u64.wrap (-(v : Int))) = -(v : Int) := by
  simp only [wrap64, IntKind.wrap_u64]
  omega
theorem wrap_pos_u64 (v : Nat) (h : v ≤ 9223372036854775807) : wrap64 (v : Int) = v := by
  simp only [wrap64]
  omega

theorem parse_nil : mParseNum [] = none := rfl
theorem parse_neg (d : List UInt8) : mParseNum (126 :: d) = if numShape true d && d.all isDig then numRange true (valD 0 d) else none := rfl
theorem parse_pos (c : UInt8) (r : List UInt8) (h : c.toNat ≠ 126) : mParseNum (c :: r) = if numShape false (c :: r) && (c :: r).all isDig then numRange false (valD 0 (c :: r)) else none := by
  have e : mNeg (c :: r) = false := by rw [mNeg_cons]; simp [h]
  unfold mParseNum mMag
  rw [e]
  rfl

theorem wordParseNum_neg (d : List UInt8) (w : World) (hmax : d.length ≤ 140737488351231) :
    Calls Tryd.prog 45 #[str (126 :: d)] w fun e w' => e = .returned (.tuple #[.int .i64 (numV (126 :: d)), .int .i64 (numE (126 :: d))]) ∧ w = w' := by
  have hp' := hide (parse_neg d)
  by_cases h1 : numShape true d = true
  · have h1' := hide h1
    simp only [numShape, Bool.and_eq_true, decide_eq_true_eq, Bool.true_or, Bool.and_true, Bool.not_eq_true', beq_eq_false_iff_ne, ne_eq] at h1
    obtain ⟨⟨hs1, hs2⟩, h48⟩ := h1
    obtain ⟨x, hx, hdx⟩ := str_at d (k := 0) (by omega)
    have h48' : ((x.toNat : Int) == 48) = false := by
      rw [beq_eq_false_iff_ne]
      intro e
      apply h48
      have : x = 48 := UInt8.toNat_inj.1 (by show x.toNat = 48; omega)
      rw [show d.head? = (d.drop 0).head? from rfl, hdx, this]
      rfl
    have hs1' : 1 ≤ (d.length : Int) := by omega
    have hdx' := hide hdx
    clear hdx h48
    go_enter Tryd.func45, Tryd.ntmps45
    go_wp2_with fail
    go_loop [6, 7] (fun u i => ∃ k v : Nat, k ≤ d.length ∧ i = .int .i64 k ∧ u = .int .u64 v ∧ v + 1 ≤ 10 ^ k ∧ valD v (d.drop k) = valD 0 d ∧ (d.drop k).all isDig = d.all isDig) (fun _ i => d.length - (intOf i).toNat)
    case atStart => exact ⟨0, 0, by omega, rfl, rfl, by omega, rfl, rfl⟩
    case round =>
      obtain ⟨k, v, hk, rfl, rfl, hv, he, ha⟩ := hrel
      have he' := hide he; clear he
      have ha' := hide ha; clear ha
      have hv' := hide hv; clear hv
      by_cases hlt : k < d.length
      · have hv18 : v ≤ 999999999999999999 := by
          have := pow_le_18 k (by omega)
          have := hv'.out
          omega
        obtain ⟨y, hy, hdy⟩ := str_at d hlt
        have hdy' := hide hdy; clear hdy
        by_cases hp : 48 ≤ y.toNat ∧ y.toNat ≤ 57
        · have hpd := hide ((isDig_iff y).2 hp)
          obtain ⟨hp1, hp2⟩ := hp
          go_wp2_with fail
          go_round
          case rel =>
            refine ⟨k + 1, v * 10 + (y.toNat - 48), by omega, by go_num, by go_num, ?_, ?_, ?_⟩
            · have := hv'.out
              rw [Nat.pow_succ]
              omega
            · rw [← he'.out, hdy'.out]
              rfl
            · rw [← ha'.out, hdy'.out]
              simp [hpd.out]
          case measure => simp [intOf]; omega
        · have hpd : Hid (isDig y = false) := by
            refine hide ?_
            rw [← Bool.not_eq_true, isDig_iff]
            exact hp
          go_wp2_with fail
          all_goals
            go_ret2
            have hnone : mParseNum (126 :: d) = none := by
              rw [hp'.out, ← ha'.out, hdy'.out]
              simp [hpd.out]
            rw [(numVE_none hnone).1, (numVE_none hnone).2]
            exact ⟨rfl, rfl⟩
      · have hkd : k = d.length := by omega
        subst hkd
        have hvv : v = valD 0 d := by
          have := he'.out
          rw [List.drop_eq_nil_of_le (Nat.le_refl _)] at this
          exact this
        have hall : d.all isDig = true := by
          have := ha'.out
          rw [List.drop_eq_nil_of_le (Nat.le_refl _)] at this
          exact this.symm
        have hp2 : mParseNum (126 :: d) = numRange true v := by
          rw [hp'.out, hall, hvv]
          simp only [h1'.out, Bool.and_true, if_true]
        have hp2' := hide hp2; clear hp2
        clear hvv hall
        by_cases hr : (v : Int) ≤ 9223372036854775808
        · have hsome : Hid (mParseNum (126 :: d) = some (-(v : Int))) := by
            refine hide ?_
            rw [hp2'.out, numRange]
            rw [if_pos rfl, if_pos (by omega)]
          go_wp2_with fail
          go_ret2
          rw [(numVE_some hsome.out).1, (numVE_some hsome.out).2]
          exact ⟨congrArg (fun x => Ending.returned (.tuple #[.int .i64 x, .int .i64 0])) (wrap_neg_u64 v (by omega)), rfl⟩
        · have hnone : Hid (mParseNum (126 :: d) = none) := by
            refine hide ?_
            rw [hp2'.out, numRange]
            rw [if_pos rfl, if_neg (by omega)]
          go_wp2_with fail
          go_ret2
          rw [(numVE_none hnone.out).1, (numVE_none hnone.out).2]
          exact ⟨rfl, rfl⟩
  · have h1' : numShape true d = false := by simpa using h1
    have hsh := h1'
    simp only [numShape, Bool.true_or, Bool.and_true] at hsh
    have h1'' := hide h1'; clear h1' h1
    by_cases ha : d.length < 1
    · have : d = [] := List.eq_nil_of_length_eq_zero (by omega)
      subst this
      go_enter Tryd.func45, Tryd.ntmps45
      go_wp2_with fail
      go_ret2
      exact ⟨rfl, rfl⟩
    · by_cases hb : 19 < d.length
      · clear hsh
        go_enter Tryd.func45, Tryd.ntmps45
        go_wp2_with fail
        go_ret2
        have hnone : mParseNum (126 :: d) = none := by rw [hp'.out, h1''.out]; rfl
        rw [(numVE_none hnone).1, (numVE_none hnone).2]
        exact ⟨rfl, rfl⟩
      · obtain ⟨x, hx, hdx⟩ := str_at d (k := 0) (by omega)
        have hx48 : x = 48 := by
          have hh : d.head? = some x := by rw [show d.head? = (d.drop 0).head? from rfl, hdx]; rfl
          rw [hh] at hsh
          simpa [show 1 ≤ d.length by omega, show d.length ≤ 19 by omega] using hsh
        clear hsh
        have h48' : ((x.toNat : Int) == 48) = true := by subst hx48; rfl
        clear hdx hx48
        have hs1' : 1 ≤ (d.length : Int) := by omega
        go_enter Tryd.func45, Tryd.ntmps45
        go_wp2_with fail
        all_goals
          go_ret2
          have hnone : mParseNum (126 :: d) = none := by rw [hp'.out, h1''.out]; rfl
          rw [(numVE_none hnone).1, (numVE_none hnone).2]
          exact ⟨rfl, rfl⟩

theorem wordParseNum_pos (d : List UInt8) (c : UInt8) (r : List UInt8) (hd : d = c :: r) (hc : c.toNat ≠ 126) (w : World) (hmax : d.length ≤ 140737488351232) :
    Calls Tryd.prog 45 #[str d] w fun e w' => e = .returned (.tuple #[.int .i64 (numV d), .int .i64 (numE d)]) ∧ w = w' := by
  have hlen : 1 ≤ d.length := by rw [hd]; simp
  have hp' : Hid (mParseNum d = if numShape false d && d.all isDig then numRange false (valD 0 d) else none) := hide (by rw [hd]; exact parse_pos c r hc)
  have hd0 : d[0]'hlen = c := by subst hd; rfl
  have hhd : d.head? = some c := by rw [hd]; rfl
  have hhd' := hide hhd; clear hhd
  clear hd
  have h126 : ((c.toNat : Int) == 126) = false := by rw [beq_eq_false_iff_ne]; omega
  have hs1' : 1 ≤ (d.length : Int) := by omega
  by_cases h1 : numShape false d = true
  · have h1' := hide h1
    simp only [numShape, Bool.and_eq_true, decide_eq_true_eq, Bool.false_or, Bool.not_eq_true', Bool.and_eq_false_iff, beq_eq_false_iff_ne, ne_eq, decide_eq_false_iff_not, hhd'.out] at h1
    obtain ⟨⟨_, hs2⟩, h48⟩ := h1
    have hcase : (((c.toNat : Int) == 48) = false) ∨ (((c.toNat : Int) == 48) = true ∧ d.length ≤ 1) := by
      by_cases e : c.toNat = 48
      · refine .inr ⟨by simp [e], ?_⟩
        rcases h48 with h48 | h48
        · exact absurd (by rw [show c = 48 from UInt8.toNat_inj.1 e]) h48
        · omega
      · exact .inl (by rw [beq_eq_false_iff_ne]; omega)
    clear h48
    rcases hcase with h48 | ⟨h48, hs3⟩
    all_goals
      go_enter Tryd.func45, Tryd.ntmps45
      go_wp2_with fail
      go_loop [6, 7] (fun u i => ∃ k v : Nat, k ≤ d.length ∧ i = .int .i64 k ∧ u = .int .u64 v ∧ v + 1 ≤ 10 ^ k ∧ valD v (d.drop k) = valD 0 d ∧ (d.drop k).all isDig = d.all isDig) (fun _ i => d.length - (intOf i).toNat)
      case atStart => exact ⟨0, 0, by omega, rfl, rfl, by omega, rfl, rfl⟩
      case round =>
        obtain ⟨k, v, hk, rfl, rfl, hv, he, ha⟩ := hrel
        have he' := hide he; clear he
        have ha' := hide ha; clear ha
        have hv' := hide hv; clear hv
        by_cases hlt : k < d.length
        · have hv18 : v ≤ 999999999999999999 := by
            have := pow_le_18 k (by omega)
            have := hv'.out
            omega
          obtain ⟨y, hy, hdy⟩ := str_at d hlt
          have hdy' := hide hdy; clear hdy
          by_cases hp : 48 ≤ y.toNat ∧ y.toNat ≤ 57
          · have hpd := hide ((isDig_iff y).2 hp)
            obtain ⟨hp1, hp2⟩ := hp
            go_wp2_with fail
            go_round
            case rel =>
              refine ⟨k + 1, v * 10 + (y.toNat - 48), by omega, by go_num, by go_num, ?_, ?_, ?_⟩
              · have := hv'.out
                rw [Nat.pow_succ]
                omega
              · rw [← he'.out, hdy'.out]
                rfl
              · rw [← ha'.out, hdy'.out]
                simp [hpd.out]
            case measure => simp [intOf]; omega
          · have hpd : Hid (isDig y = false) := by
              refine hide ?_
              rw [← Bool.not_eq_true, isDig_iff]
              exact hp
            go_wp2_with fail
            all_goals
              go_ret2
              have hnone : mParseNum d = none := by
                rw [hp'.out, ← ha'.out, hdy'.out]
                simp [hpd.out]
              rw [(numVE_none hnone).1, (numVE_none hnone).2]
              exact ⟨rfl, rfl⟩
        · have hkd : k = d.length := by omega
          subst hkd
          have hvv : v = valD 0 d := by
            have := he'.out
            rw [List.drop_eq_nil_of_le (Nat.le_refl _)] at this
            exact this
          have hall : d.all isDig = true := by
            have := ha'.out
            rw [List.drop_eq_nil_of_le (Nat.le_refl _)] at this
            exact this.symm
          have hp2 : mParseNum d = numRange false v := by
            rw [hp'.out, hall, hvv]
            simp only [h1'.out, Bool.and_true, if_true]
          have hp2' := hide hp2; clear hp2
          clear hvv hall
          by_cases hr : (v : Int) < 9223372036854775808
          · have hsome : Hid (mParseNum d = some ((v : Int))) := by
              refine hide ?_
              rw [hp2'.out, numRange]
              rw [if_neg (by decide), if_pos (by omega)]
            go_wp2_with fail
            go_ret2
            rw [(numVE_some hsome.out).1, (numVE_some hsome.out).2]
            exact ⟨rfl, rfl⟩
          · have hnone : Hid (mParseNum d = none) := by
              refine hide ?_
              rw [hp2'.out, numRange]
              rw [if_neg (by decide), if_neg (by omega)]
            go_wp2_with fail
            go_ret2
            rw [(numVE_none hnone.out).1, (numVE_none hnone.out).2]
            exact ⟨rfl, rfl⟩
  · have h1' : numShape false d = false := by simpa using h1
    have hsh := h1'
    simp only [numShape, Bool.false_or, hhd'.out] at hsh
    have h1'' := hide h1'; clear h1' h1
    have hcase : 19 < d.length ∨ (((c.toNat : Int) == 48) = true ∧ 1 < d.length ∧ d.length ≤ 19) := by
      by_cases hb : 19 < d.length
      · exact .inl hb
      · refine .inr ?_
        have h2 : c = 48 ∧ 1 < d.length := by simpa [hlen, show d.length ≤ 19 by omega] using hsh
        refine ⟨by rw [h2.1]; rfl, h2.2, by omega⟩
    clear hsh
    rcases hcase with hb | ⟨h48, hb, hb2⟩
    all_goals
      go_enter Tryd.func45, Tryd.ntmps45
      go_wp2_with fail
      go_ret2
      have hnone : mParseNum d = none := by rw [hp'.out, h1''.out]; rfl
      rw [(numVE_none hnone).1, (numVE_none hnone).2]
      exact ⟨rfl, rfl⟩

theorem wordParseNum_any (l : List UInt8) (w : World) (hmax : l.length ≤ 140737488351232) :
    Calls Tryd.prog 45 #[str l] w fun e w' => e = .returned (.tuple #[.int .i64 (numV l), .int .i64 (numE l)]) ∧ w = w' := by
  cases l with
  | nil =>
    go_enter Tryd.func45, Tryd.ntmps45
    go_wp2_with fail
    go_ret2
    exact ⟨rfl, rfl⟩
  | cons c r =>
    by_cases h : c.toNat = 126
    · have : c = 126 := UInt8.toNat_inj.1 h
      subst this
      exact wordParseNum_neg r w (by simp at hmax; omega)
    · exact wordParseNum_pos _ c r rfl h w hmax

theorem valD_ge (d : List UInt8) (v : Nat) : v ≤ valD v d := by
  induction d generalizing v with
  | nil => exact Nat.le_refl _
  | cons c r ih =>
    have e : valD v (c :: r) = valD (v * 10 + (c.toNat - 48)) r := rfl
    rw [e]
    exact Nat.le_trans (by omega) (ih _)
theorem valD_pos (x : UInt8) (r : List UInt8) (h : isDig x = true) (hx : x.toNat ≠ 48) : 1 ≤ valD 0 (x :: r) := by
  have e : valD 0 (x :: r) = valD (0 * 10 + (x.toNat - 48)) r := rfl
  rw [e]
  rw [isDig_iff] at h
  exact Nat.le_trans (by omega) (valD_ge _ _)

end Go.Proofs.YtoadmjnaakbljaaDoor
