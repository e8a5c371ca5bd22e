/- Walks: the byte tests and the skipping of blanks, of the program's lexer and of the reference's. -/
import Derived.Test.YtoadmjnaakbljaaDoorLexM
namespace Go.Proofs.YtoadmjnaakbljaaDoor
open Go Go.RowKit

set_option maxHeartbeats 400000

theorem lexDigit_any (c : UInt8) (w : World) :
    Calls Tryd.prog 32 #[.int .u8 c.toNat] w fun e w' => e = .returned (.bool (isDig c)) ∧ w = w' := by
  have hc := c.toNat_lt
  go_enter Tryd.func32, Tryd.ntmps32
  go_wp2
  all_goals (go_ret; exact ⟨ret_bool (bool_ext (by simp [isDig] <;> omega)), rfl⟩)

theorem lexSmall_any (c : UInt8) (w : World) :
    Calls Tryd.prog 30 #[.int .u8 c.toNat] w fun e w' => e = .returned (.bool (isSmall c)) ∧ w = w' := by
  have hc := c.toNat_lt
  go_enter Tryd.func30, Tryd.ntmps30
  go_wp2
  all_goals (go_ret; exact ⟨ret_bool (bool_ext (by simp [isSmall] <;> omega)), rfl⟩)

theorem lexBelongs_any (c : UInt8) (w : World) :
    Calls Tryd.prog 42 #[.int .u8 c.toNat] w fun e w' => e = .returned (.bool (isPart c)) ∧ w = w' := by
  have hc := c.toNat_lt
  go_enter Tryd.func42, Tryd.ntmps42
  go_wp2
  all_goals (go_ret; exact ⟨ret_bool (bool_ext (by simp [isSmall, isDig, isBig, isPart, *] <;> omega)), rfl⟩)

theorem wordInner_any (c : UInt8) (w : World) :
    Calls Tryd.prog 54 #[.int .u8 c.toNat] w fun e w' => e = .returned (.bool (isPart c)) ∧ w = w' := by
  have hc := c.toNat_lt
  go_enter Tryd.func54, Tryd.ntmps54
  go_wp2
  all_goals (go_ret; exact ⟨ret_bool (bool_ext (by simp [isSmall, isDig, isBig, isPart, *] <;> omega)), rfl⟩)

theorem wordPlain_any (c : UInt8) (w : World) :
    Calls Tryd.prog 55 #[.int .u8 c.toNat] w fun e w' => e = .returned (.bool (isPlain c)) ∧ w = w' := by
  have hc := c.toNat_lt
  go_enter Tryd.func55, Tryd.ntmps55
  go_wp2
  all_goals (go_ret; exact ⟨ret_bool (bool_ext (by simp [isPlain, *] <;> omega)), rfl⟩)

theorem hexV_cases (c : UInt8) : (48 ≤ c.toNat ∧ c.toNat ≤ 57 ∧ hexV c = some (c.toNat - 48)) ∨ (97 ≤ c.toNat ∧ c.toNat ≤ 102 ∧ hexV c = some (c.toNat - 87)) ∨
    ((c.toNat < 48 ∨ 57 < c.toNat) ∧ (c.toNat < 97 ∨ 102 < c.toNat) ∧ hexV c = none) := by
  unfold hexV isDig
  by_cases h1 : 48 ≤ c.toNat ∧ c.toNat ≤ 57
  · exact .inl ⟨h1.1, h1.2, by simp [h1]⟩
  · by_cases h2 : 97 ≤ c.toNat ∧ c.toNat ≤ 102
    · refine .inr (.inl ⟨h2.1, h2.2, ?_⟩)
      rw [if_neg (by simp; omega), if_pos h2]
    · refine .inr (.inr ⟨by omega, by omega, ?_⟩)
      rw [if_neg (by simp; omega), if_neg h2]

theorem wordDigit_any (c : UInt8) (w : World) :
    Calls Tryd.prog 56 #[.int .u8 c.toNat] w fun e w' => e = .returned (.tuple #[.int .u8 (((hexV c).getD 0 : Nat) : Int), .bool (hexV c).isSome]) ∧ w = w' := by
  have hc := c.toNat_lt
  rcases hexV_cases c with ⟨h1, h2, h⟩ | ⟨h1, h2, h⟩ | ⟨h1, h2, h⟩
  all_goals
    have H := hide h; clear h
    go_enter Tryd.func56, Tryd.ntmps56
    go_wp2
    all_goals (go_ret2; rw [H.out]; refine ⟨?_, rfl⟩; simp <;> omega)

def hexB : List UInt8 := [48, 49, 50, 51, 52, 53, 54, 55, 56, 57, 97, 98, 99, 100, 101, 102]
theorem hexB_some : ∀ k, (h : k < 16) → hexV (hexB[k]'h) = some k := by decide +kernel
theorem hexB_none_aux : ∀ n : Fin 256, (hexV (UInt8.ofNat n.val) = none ∨ UInt8.ofNat n.val ∈ hexB) := by decide +kernel
theorem hexB_none (c : UInt8) (h : ∀ k, (hk : k < 16) → hexB[k]'hk ≠ c) : hexV c = none := by
  rcases hexB_none_aux ⟨c.toNat, c.toNat_lt⟩ with h1 | h1
  · simpa using h1
  · exfalso
    simp only [UInt8.ofNat_toNat] at h1
    obtain ⟨k, hk, e⟩ := List.getElem_of_mem h1
    exact h k hk e

def hexI (c : UInt8) : Int := match hexV c with | some a => a | none => -1

theorem lexSkip_any (A : Option Addr) (c i : Nat) (bs : List UInt8) (w : World) (hb : RdB w A bs) (hi : i ≤ bs.length) (hmax : bs.length ≤ 140737488351232) :
    Calls Tryd.prog 29 #[.slice A bs.length c, .int .i64 i] w fun e w' => e = .returned (.int .i64 ((bs.length - (mSkip false (bs.drop i)).length : Nat) : Int)) ∧ w = w' := by
  go_enter Tryd.func29, Tryd.ntmps29
  go_wp2
  go_loop [1] (fun i' => ∃ k : Nat, k ≤ bs.length ∧ i' = .int .i64 k ∧ mSkip false (bs.drop k) = mSkip false (bs.drop i)) (fun i' => bs.length - (intOf i').toNat)
  case atStart => exact ⟨i, hi, rfl, rfl⟩
  case round =>
    obtain ⟨k, hk, rfl, he⟩ := hrel
    have he' := hide he; clear he
    by_cases hlt : k < bs.length
    · obtain ⟨ad, x, rfl, hc, hd⟩ := hb.at hlt
      have hd' := hide hd; clear hd
      go_wp2
      all_goals simp only [beq_iff_eq, beq_eq_false_iff_ne, ne_eq] at *
      all_goals try
        go_round
        case rel => exact ⟨k + 1, by omega, by go_num, by rw [← he'.out, hd'.out, mSkip, if_pos (by simp only [isBlank, Bool.or_eq_true, beq_iff_eq]; omega)]⟩
        case measure => simp [intOf]; omega
      · go_loop [1] (fun i' => ∃ k' : Nat, k ≤ k' ∧ k' ≤ bs.length ∧ i' = .int .i64 k' ∧ mSkip true (bs.drop k') = mSkip false (bs.drop i)) (fun i' => bs.length - (intOf i').toNat)
        case atStart =>
          refine ⟨k, Nat.le_refl _, hk, rfl, ?_⟩
          rw [← he'.out, hd'.out, mSkip, mSkip, if_neg (by omega), if_neg (by simp only [isBlank, Bool.or_eq_true, beq_iff_eq]; omega), if_pos (by omega)]
        case round =>
          obtain ⟨k', hk1, hk2, rfl, h2⟩ := hrel
          have h2' := hide h2; clear h2
          by_cases hlt2 : k' < bs.length
          · obtain ⟨ad', y, hA2, hc2, hd2⟩ := hb.at hlt2
            cases hA2
            have hd2' := hide hd2; clear hd2
            go_wp2
            all_goals simp only [bne_iff_ne, bne_eq_false_iff_eq, ne_eq] at *
            · go_round
              case rel => exact ⟨k' + 1, by omega, by omega, by go_num, by rw [← h2'.out, hd2'.out, mSkip, if_neg (by omega)]⟩
              case measure => simp [intOf]; omega
            · go_round
              case rel => exact ⟨k', by omega, by go_num, by rw [← h2'.out, hd2'.out, mSkip, mSkip, if_pos (by simp only [isBlank, Bool.or_eq_true, beq_iff_eq]; omega), if_pos (by omega)]⟩
              case measure =>
                have hne : k ≠ k' := by
                  rintro rfl
                  have e := hd'.out.symm.trans hd2'.out
                  injection e with e
                  subst e
                  omega
                simp [intOf]; omega
          · go_wp2
            go_round
            case rel => exact ⟨k', by omega, by go_num, by rw [← h2'.out, List.drop_eq_nil_of_le (by omega)]; rfl⟩
            case measure => simp [intOf]; omega
      · go_ret
        refine ⟨ret_int ?_, rfl⟩
        rw [← he'.out, hd'.out, mSkip, if_neg (by simp only [isBlank, Bool.or_eq_true, beq_iff_eq]; omega), if_neg (by omega), ← hd'.out, List.length_drop]
        omega
    · go_wp2
      go_ret
      have : k = bs.length := by omega
      subst this
      refine ⟨ret_int ?_, rfl⟩
      rw [← he'.out, List.drop_eq_nil_of_le (Nat.le_refl _)]
      simp [mSkip]

end Go.Proofs.YtoadmjnaakbljaaDoor
