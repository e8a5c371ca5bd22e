/- Walks: the byte tests and the skipping of blanks, of the program's lexer and of the reference's. -/
import Derived.Test.YtbinmbjcijndhaaDoorLexM
namespace Go.Proofs.YtbinmbjcijndhaaDoor
open Go Go.RowKit

set_option maxHeartbeats 400000

theorem refLower_any (c : UInt8) (w : World) :
    Calls Tryd.prog 31 #[.int .u8 c.toNat] w fun e w' => e = .returned (.bool (isSmall c)) ∧ w = w' := by
  have hc := c.toNat_lt
  go_enter Tryd.func31, Tryd.ntmps31
  go_wp2
  all_goals (go_ret; exact ⟨ret_bool (bool_ext (by simp [isSmall] <;> omega)), rfl⟩)

theorem refDigit_any (c : UInt8) (w : World) :
    Calls Tryd.prog 25 #[.int .u8 c.toNat] w fun e w' => e = .returned (.bool (isDig c)) ∧ w = w' := by
  have hc := c.toNat_lt
  go_enter Tryd.func25, Tryd.ntmps25
  go_wp2
  all_goals (go_ret; exact ⟨ret_bool (bool_ext (by simp [isDig] <;> omega)), rfl⟩)

theorem refPart_any (c : UInt8) (w : World) :
    Calls Tryd.prog 32 #[.int .u8 c.toNat] w fun e w' => e = .returned (.bool (isPart c)) ∧ w = w' := by
  have hc := c.toNat_lt
  go_enter Tryd.func32, Tryd.ntmps32
  go_wp2
  all_goals (go_ret; exact ⟨ret_bool (bool_ext (by simp [isSmall, isDig, isBig, isPart, *] <;> omega)), rfl⟩)

theorem wordInner_any (c : UInt8) (w : World) :
    Calls Tryd.prog 24 #[.int .u8 c.toNat] w fun e w' => e = .returned (.bool (isPart c)) ∧ w = w' := by
  have hc := c.toNat_lt
  go_enter Tryd.func24, Tryd.ntmps24
  go_wp2
  all_goals (go_ret; exact ⟨ret_bool (bool_ext (by simp [isSmall, isDig, isBig, isPart, *] <;> omega)), rfl⟩)

theorem wordPlain_any (c : UInt8) (w : World) :
    Calls Tryd.prog 26 #[.int .u8 c.toNat] w fun e w' => e = .returned (.bool (isPlain c)) ∧ w = w' := by
  have hc := c.toNat_lt
  go_enter Tryd.func26, Tryd.ntmps26
  go_wp2
  all_goals (go_ret; exact ⟨ret_bool (bool_ext (by simp [isPlain, *] <;> omega)), rfl⟩)

theorem hexV_cases (c : UInt8) : (48 ≤ c.toNat ∧ c.toNat ≤ 57 ∧ hexV c = some (c.toNat - 48)) ∨ (97 ≤ c.toNat ∧ c.toNat ≤ 102 ∧ hexV c = some (c.toNat - 87)) ∨
    ((c.toNat < 48 ∨ 57 < c.toNat) ∧ (c.toNat < 97 ∨ 102 < c.toNat) ∧ hexV c = none) := by
  unfold hexV isDig
  by_cases h1 : 48 ≤ c.toNat ∧ c.toNat ≤ 57
  · exact .inl ⟨h1.1, h1.2, by simp [h1]⟩
  · by_cases h2 : 97 ≤ c.toNat ∧ c.toNat ≤ 102
    · refine .inr (.inl ⟨h2.1, h2.2, ?_⟩)
      rw [if_neg (by simp; omega), if_pos h2]
    · refine .inr (.inr ⟨by omega, by omega, ?_⟩)
      rw [if_neg (by simp; omega), if_neg h2]

theorem wordDigit_any (c : UInt8) (w : World) :
    Calls Tryd.prog 29 #[.int .u8 c.toNat] w fun e w' => e = .returned (.tuple #[.int .u8 (((hexV c).getD 0 : Nat) : Int), .bool (hexV c).isSome]) ∧ w = w' := by
  have hc := c.toNat_lt
  rcases hexV_cases c with ⟨h1, h2, h⟩ | ⟨h1, h2, h⟩ | ⟨h1, h2, h⟩
  all_goals
    have H := hide h; clear h
    go_enter Tryd.func29, Tryd.ntmps29
    go_wp2
    all_goals (go_ret2; rw [H.out]; refine ⟨?_, rfl⟩; simp <;> omega)

def hexB : List UInt8 := [48, 49, 50, 51, 52, 53, 54, 55, 56, 57, 97, 98, 99, 100, 101, 102]
theorem hexB_some : ∀ k, (h : k < 16) → hexV (hexB[k]'h) = some k := by decide +kernel
theorem hexB_none_aux : ∀ n : Fin 256, (hexV (UInt8.ofNat n.val) = none ∨ UInt8.ofNat n.val ∈ hexB) := by decide +kernel
theorem hexB_none (c : UInt8) (h : ∀ k, (hk : k < 16) → hexB[k]'hk ≠ c) : hexV c = none := by
  rcases hexB_none_aux ⟨c.toNat, c.toNat_lt⟩ with h1 | h1
  · simpa using h1
  · exfalso
    simp only [UInt8.ofNat_toNat] at h1
    obtain ⟨k, hk, e⟩ := List.getElem_of_mem h1
    exact h k hk e

def hexI (c : UInt8) : Int := match hexV c with | some a => a | none => -1

theorem refHexOf_any (c : UInt8) (w : World) :
    Calls Tryd.prog 30 #[.int .u8 c.toNat] w fun e w' => e = .returned (.int .i64 (hexI c)) ∧ w = w' := by
  go_enter Tryd.func30, Tryd.ntmps30
  go_wp2
  go_loop [3] (fun i => ∃ k : Nat, k ≤ 16 ∧ i = .int .i64 k ∧ ∀ j, (hj : j < 16) → j < k → hexB[j]'hj ≠ c) (fun i => 16 - (intOf i).toNat)
  case atStart => exact ⟨0, by omega, rfl, fun j _ h => by omega⟩
  case round =>
    obtain ⟨k, hk, rfl, hall⟩ := hrel
    have H := hide hall; clear hall
    by_cases hlt : k < 16
    · obtain ⟨x, hx⟩ : ∃ x : UInt8, hexB[k]'hlt = x := ⟨_, rfl⟩
      have HX := hide hx
      unfold hexB at hx
      go_wp2
      all_goals simp only [beq_iff_eq, beq_eq_false_iff_ne, ne_eq, Int.natCast_inj] at *
      · go_ret
        have hxc : x = c := UInt8.toNat_inj.1 (by omega)
        have := hexB_some k hlt
        rw [HX.out, hxc] at this
        refine ⟨?_, rfl⟩
        rw [hexI, this]
        rfl
      · go_round
        case rel =>
          refine ⟨k + 1, by omega, by go_num, fun j hj hjk => ?_⟩
          rcases Nat.lt_or_ge j k with h1 | h1
          · exact H.out j hj h1
          · have : j = k := by omega
            subst this
            rw [HX.out]
            intro e
            subst e
            omega
        case measure => simp [intOf]; omega
    · go_wp2
      have : k = 16 := by omega
      subst this
      go_ret
      refine ⟨?_, rfl⟩
      rw [hexI, hexB_none c (fun j hj => H.out j hj hj)]
      rfl

end Go.Proofs.YtbinmbjcijndhaaDoor
