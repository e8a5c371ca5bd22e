/- Walks: the reference's text of a number. -/
import Derived.Test.YtoadmjnaakbljaaDoorLexW6
import Derived.Test.YtoadmjnaakbljaaDoorWordP
namespace Go.Proofs.YtoadmjnaakbljaaDoor
open Go Go.RowKit

set_option maxHeartbeats 1000000
set_option maxRecDepth 100000

/-- the digits that are there, and what is still to come -/
def DigInv (u0 u : Nat) (s : List UInt8) : Prop := (s = [] ∧ u = u0) ∨ (s ≠ [] ∧ (0 < u → digF 20 u ++ s = digF 20 u0) ∧ (u = 0 → s = digF 20 u0))
def emp : Value → Nat
  | .string b => if b.size = 0 then 1 else 0
  | _ => 0
theorem emp_le (v : Value) : emp v ≤ 1 := by
  unfold emp
  split
  · split <;> omega
  · omega
theorem digF_cut {u : Nat} (h : 9 < u) (h2 : u < 10 ^ 20) : digF 20 u = digF 20 (u / 10) ++ [UInt8.ofNat (48 + u % 10)] := by
  have e : digF 20 u = if u < 10 then [UInt8.ofNat (48 + u)] else digF 19 (u / 10) ++ [UInt8.ofNat (48 + u % 10)] := rfl
  rw [e, if_neg (by omega), digF_less (f := 19) (g := 20) (by have := pow19; have := pow20; omega) (by omega) (by omega)]
theorem digF_one {u : Nat} (h : u < 10) : digF 20 u = [UInt8.ofNat (48 + u)] := by
  have e : digF 20 u = if u < 10 then [UInt8.ofNat (48 + u)] else digF 19 (u / 10) ++ [UInt8.ofNat (48 + u % 10)] := rfl
  rw [e, if_pos h]
theorem DigInv.more {u0 u : Nat} {s : List UInt8} (h : DigInv u0 u s) (h9 : 9 < u) (h2 : u < 10 ^ 20) : DigInv u0 (u / 10) (UInt8.ofNat (48 + u % 10) :: s) := by
  refine .inr ⟨by simp, fun _ => ?_, fun h0 => by omega⟩
  have e := digF_cut h9 h2
  rcases h with ⟨rfl, rfl⟩ | ⟨_, h1, _⟩
  · exact e.symm
  · rw [← h1 (by omega), e, List.append_assoc]
    rfl
theorem DigInv.zero {u0 : Nat} {s : List UInt8} (h : DigInv u0 0 s) (hs : s = []) : DigInv u0 0 (UInt8.ofNat (48 + 0) :: s) := by
  subst hs
  rcases h with ⟨_, rfl⟩ | ⟨h, _⟩
  · exact .inr ⟨by simp, fun h => by omega, fun _ => rfl⟩
  · exact absurd rfl h
theorem DigInv.last {u0 u : Nat} {s : List UInt8} (h : DigInv u0 u s) (h9 : u ≤ 9) (h0 : 0 < u) : UInt8.ofNat (48 + u) :: s = digF 20 u0 := by
  rcases h with ⟨rfl, rfl⟩ | ⟨_, h1, _⟩
  · rw [digF_one (by omega)]
  · rw [← h1 h0, digF_one (by omega)]
    rfl
theorem DigInv.done {u0 : Nat} {s : List UInt8} (h : DigInv u0 0 s) (hs : s ≠ []) : s = digF 20 u0 := by
  rcases h with ⟨h, _⟩ | ⟨_, _, h⟩
  · exact absurd h hs
  · exact h rfl
theorem DigInv.len {u0 u : Nat} {s : List UInt8} (h : DigInv u0 u s) : s.length ≤ 20 := by
  have h20 := digF_len 20 u0
  rcases h with ⟨rfl, rfl⟩ | ⟨_, h1, h2⟩
  · simp
  · rcases Nat.eq_zero_or_pos u with h0 | h0
    · rw [h2 h0]; exact h20
    · rw [← h1 h0, List.length_append] at h20; omega
theorem dig_slice (d : Nat) (h : d < 10) (w : World) : (Instr.slice 9 (.string ⟨#[48, 49, 50, 51, 52, 53, 54, 55, 56, 57]⟩) (some (.int .u64 (d : Int))) (some (.int .u64 ((d : Int) + 1))) none).run Tryd.prog w = .ok (str [UInt8.ofNat (48 + d)]) w := by
  have hd : d = 0 ∨ d = 1 ∨ d = 2 ∨ d = 3 ∨ d = 4 ∨ d = 5 ∨ d = 6 ∨ d = 7 ∨ d = 8 ∨ d = 9 := by omega
  rcases hd with rfl | rfl | rfl | rfl | rfl | rfl | rfl | rfl | rfl | rfl <;> rfl

theorem refDigits_any (u0 : Nat) (hu0 : u0 < 18446744073709551616) (w : World) :
    Calls Tryd.prog 41 #[.int .u64 u0] w fun e w' => e = .returned (str (mDigits u0)) ∧ w = w' := by
  go_enter Tryd.func41, Tryd.ntmps41
  go_wp2_with fail
  go_loop [0, 3] (fun u s => ∃ (k : Nat) (l : List UInt8), k < 18446744073709551616 ∧ u = .int .u64 k ∧ s = str l ∧ DigInv u0 k l) (fun u s => 2 * (intOf u).toNat + emp s)
  case atStart => exact ⟨u0, [], hu0, rfl, rfl, .inl ⟨rfl, rfl⟩⟩
  case round =>
    obtain ⟨k, l, hk, rfl, rfl, hinv⟩ := hrel
    have hll := hinv.len
    have hinv' := hide hinv; clear hinv
    obtain ⟨d, hd⟩ : ∃ d, d = k % 10 := ⟨_, rfl⟩
    have hd10 : d < 10 := by omega
    have hkd : (k : Int) % 10 = d := by omega
    have hd' := hide hd; clear hd
    have hds := dig_slice d hd10
    have hd1 : (d : Int) ≤ 9 := by omega
    by_cases h9 : 9 < k
    · have h9' : (9 : Int) < k := by omega
      go_wp2_with fail
      go_round
      case rel =>
        have hm := hinv'.out.more h9 (by have := pow20; omega)
        rw [← hd'.out] at hm
        exact ⟨k / 10, _, by omega, by go_num, by simp, hm⟩
      case measure =>
        refine Nat.lt_of_le_of_lt (Nat.add_le_add_left (emp_le _) _) ?_
        simp [intOf]; omega
    · by_cases h0 : k = 0
      · subst h0
        by_cases hl : l = []
        · have hm := hinv'.out.zero hl
          have hm' := hide hm; clear hm
          subst hl
          obtain rfl : d = 0 := by omega
          have hds0 := dig_slice 0 (by omega)
          rw [show (((0 : Nat) : Int) + 1) = 1 from rfl, show ((0 : Nat) : Int) = 0 from rfl] at hds0
          clear hds hkd
          go_wp2_with fail
          go_round
          case rel => exact ⟨0, _, by omega, rfl, rfl, hm'.out⟩
          case measure => decide
        · have hm := hinv'.out.done hl
          have hm' := hide hm; clear hm
          have hne : l.isEmpty = false := by cases l with | nil => exact absurd rfl hl | cons => rfl
          clear hl hkd
          go_wp2_with fail
          go_ret
          exact ⟨ret_str hm'.out, rfl⟩
      · have hm := hinv'.out.last (by omega) (by omega)
        have hm' := hide hm; clear hm
        obtain rfl : d = k := by omega
        have h1 : (0 : Int) < d := by omega
        have h2 : ((d : Int) == 0) = false := by rw [beq_eq_false_iff_ne]; omega
        clear hkd h0 h9
        go_wp2_with fail
        all_goals
          go_ret
          refine ⟨ret_str ?_, rfl⟩
          have h3 := hm'.out
          simp only [UInt8.ofNat_add] at h3
          first | exact h3 | (simp_all [mDigits]; done)

theorem refNum_any (n : Int) (h1 : -9223372036854775808 ≤ n) (h2 : n ≤ 9223372036854775807) (w : World) :
    Calls Tryd.prog 27 #[.int .i64 n] w fun e w' => e = .returned (str (mNum n)) ∧ w = w' := by
  by_cases hn : n < 0
  · have hm : mNum n = 126 :: mDigits n.natAbs := by rw [mNum, if_pos hn]
    have hm' := hide hm; clear hm
    obtain ⟨u, hu⟩ : ∃ u, u = n.natAbs := ⟨_, rfl⟩
    have hl := mDigits_len (u := u) (by rw [pow19]; omega)
    obtain ⟨m, rfl⟩ : ∃ m : Nat, n = -1 - (m : Int) := ⟨(-1 - n).toNat, by omega⟩
    obtain rfl : u = m + 1 := by omega
    have hd := refDigits_any (m + 1) (by omega) w
    rw [Int.natCast_add] at hd
    have hd' := hide hd; have hu' := hide hu; clear hd hu
    have h3 : (m : Int) ≤ 9223372036854775807 := by omega
    go_enter Tryd.func27, Tryd.ntmps27
    go_wp2_with fail
    rw [show (-(-1 - (m : Int) + 1) + 1) = (m : Int) + 1 by omega]
    refine (Calls.mono hd'.out ?_)
    rintro e w' ⟨rfl, rfl⟩
    go_wp2_with fail
    go_ret
    exact ⟨ret_str (by rw [hm'.out, ← hu'.out]), rfl⟩
  · have hm : mNum n = mDigits n.natAbs := by rw [mNum, if_neg hn]
    have hm' := hide hm; clear hm
    obtain ⟨m, rfl⟩ : ∃ m : Nat, n = (m : Int) := ⟨n.toNat, by omega⟩
    have hd := refDigits_any m (by omega) w
    have hd' := hide hd; clear hd
    have h3 : (0 : Int) ≤ m := by omega
    go_enter Tryd.func27, Tryd.ntmps27
    go_wp2_with (go_at_call 41; refine (Calls.mono hd'.out ?_); rintro e w' ⟨rfl, rfl⟩)
    go_ret
    exact ⟨ret_str (by rw [hm'.out]; simp), rfl⟩

end Go.Proofs.YtoadmjnaakbljaaDoor
