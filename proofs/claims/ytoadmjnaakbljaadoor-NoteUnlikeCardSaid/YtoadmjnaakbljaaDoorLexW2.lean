/- Walks: key words and names, of the program and of the reference. -/
import Derived.Test.YtoadmjnaakbljaaDoorLexW1
namespace Go.Proofs.YtoadmjnaakbljaaDoor
open Go Go.RowKit

set_option maxHeartbeats 1000000

theorem mKey_cases (s : List UInt8) : (mKey s = true ∧ s ∈ kws) ∨ (mKey s = false ∧ ∀ k ∈ kws, (s == k) = false) := by
  unfold mKey
  by_cases h : s ∈ kws
  · exact .inl ⟨List.contains_iff_mem.2 h, h⟩
  · refine .inr ⟨by simpa using h, fun k hk => ?_⟩
    rw [beq_eq_false_iff_ne]
    rintro rfl
    exact h hk

theorem wordKey_any (l : List UInt8) (w : World) :
    Calls Tryd.prog 43 #[str l] w fun e w' => e = .returned (.bool (mKey l)) ∧ w = w' := by
  rcases mKey_cases l with ⟨h1, h2⟩ | ⟨h1, h2⟩
  · have H := hide h1; clear h1
    simp only [kws, List.mem_cons, List.not_mem_nil, or_false] at h2
    rcases h2 with rfl | rfl | rfl | rfl | rfl | rfl | rfl | rfl | rfl | rfl | rfl | rfl | rfl | rfl | rfl | rfl | rfl
    all_goals
      go_enter Tryd.func43, Tryd.ntmps43
      go_wp2
      go_ret
      exact ⟨ret_bool H.out.symm, rfl⟩
  · have H := hide h1; clear h1
    simp only [kws, List.forall_mem_cons] at h2
    obtain ⟨h1, h2, h3, h4, h5, h6, h7, h8, h9, h10, h11, h12, h13, h14, h15, h16, h17⟩ := h2
    go_enter Tryd.func43, Tryd.ntmps43
    go_wp2
    go_ret
    exact ⟨ret_bool H.out.symm, rfl⟩

theorem mName_at (l : List UInt8) (h : 0 < l.length) : mName l = (decide (l.length ≤ 32) && isSmall (l[0]'h) && (l.drop 1).all isPart && !mKey l) := by
  cases l with
  | nil => simp at h
  | cons c r => rfl

/-- a place of a string: its byte, and the bytes from it on -/
theorem str_at (l : List UInt8) {k : Nat} (hk : k < l.length) : ∃ x, l[k]'hk = x ∧ l.drop k = x :: l.drop (k + 1) := ⟨l[k], rfl, List.drop_eq_getElem_cons hk⟩

theorem wordName_any (l : List UInt8) (w : World) (hmax : l.length ≤ 140737488351232) :
    Calls Tryd.prog 44 #[str l] w fun e w' => e = .returned (.bool (mName l)) ∧ w = w' := by
  by_cases h1 : l.length < 1
  · go_enter Tryd.func44, Tryd.ntmps44
    go_wp2_with fail
    go_ret
    have : l = [] := List.eq_nil_of_length_eq_zero (by omega)
    subst this
    exact ⟨rfl, rfl⟩
  · obtain ⟨x, hx, hd⟩ := str_at l (k := 0) (by omega)
    have hN := mName_at l (by omega)
    rw [hx] at hN
    have hN' := hide hN; clear hN hd
    by_cases h2 : 32 < l.length
    · go_enter Tryd.func44, Tryd.ntmps44
      go_wp2_with fail
      go_ret
      refine ⟨ret_bool ?_, rfl⟩
      rw [hN'.out]
      simp; omega
    · by_cases h3 : 97 ≤ x.toNat ∧ x.toNat ≤ 122
      · obtain ⟨h3, h4⟩ := h3
        have hsm : isSmall x = true := by simp [isSmall, h3, h4]
        have hsm' := hide hsm; clear hsm
        cases hkey : mKey l
        · have hkey' := hide hkey; clear hkey
          go_enter Tryd.func44, Tryd.ntmps44
          go_wp2_with (go_at_call 43; refine (wordKey_any l _).mono ?_; rintro e w' ⟨rfl, rfl⟩; rw [hkey'.out])
          go_loop [3] (fun i => ∃ k : Nat, 1 ≤ k ∧ k ≤ l.length ∧ i = .int .i64 k ∧ (l.drop 1).all isPart = (l.drop k).all isPart) (fun i => l.length - (intOf i).toNat)
          case atStart => exact ⟨1, by omega, by omega, rfl, rfl⟩
          case round =>
            obtain ⟨k, hk1, hk2, rfl, he⟩ := hrel
            have he' := hide he; clear he
            by_cases hlt : k < l.length
            · obtain ⟨y, hy, hdy⟩ := str_at l hlt
              have hdy' := hide hdy; clear hdy
              cases hp : isPart y
              · have hp' := hide hp; clear hp
                go_wp2_with (go_at_call 54; refine (wordInner_any y _).mono ?_; rintro e w' ⟨rfl, rfl⟩; rw [hp'.out])
                go_ret
                refine ⟨ret_bool ?_, rfl⟩
                rw [hN'.out, he'.out, hdy'.out]
                simp [hp'.out]
              · have hp' := hide hp; clear hp
                go_wp2_with (go_at_call 54; refine (wordInner_any y _).mono ?_; rintro e w' ⟨rfl, rfl⟩; rw [hp'.out])
                go_round
                case rel => exact ⟨k + 1, by omega, by omega, by go_num, by rw [he'.out, hdy'.out]; simp [hp'.out]⟩
                case measure => simp [intOf]; omega
            · go_wp2_with fail
              go_ret
              refine ⟨ret_bool ?_, rfl⟩
              rw [hN'.out, he'.out, List.drop_eq_nil_of_le (by omega), hkey'.out, hsm'.out]
              simp; omega
        · have hkey' := hide hkey; clear hkey
          go_enter Tryd.func44, Tryd.ntmps44
          go_wp2_with (go_at_call 43; refine (wordKey_any l _).mono ?_; rintro e w' ⟨rfl, rfl⟩; rw [hkey'.out])
          go_ret
          refine ⟨ret_bool ?_, rfl⟩
          rw [hN'.out, hkey'.out]
          simp
      · have hsm : isSmall x = false := by simp [isSmall]; omega
        have hsm' := hide hsm; clear hsm
        go_enter Tryd.func44, Tryd.ntmps44
        go_wp2_with fail
        all_goals
          go_ret
          refine ⟨ret_bool ?_, rfl⟩
          rw [hN'.out, hsm'.out]
          simp

/-! the reference's key words: one text of all of them -/
def wordsB : List UInt8 := [32, 108, 101, 116, 32, 114, 101, 99, 32, 105, 110, 32, 102, 117, 110, 32, 105, 102, 32, 116, 104, 101, 110, 32, 101, 108, 115, 101, 32, 109, 97, 116, 99, 104, 32, 119, 105, 116, 104, 32, 101, 110, 100, 32, 116, 114, 117, 101, 32, 102, 97, 108, 115, 101, 32, 105, 110, 116, 32, 98, 111, 111, 108, 32, 115, 116, 114, 105, 110, 103, 32, 117, 110, 105, 116, 32, 108, 105, 115, 116, 32]
theorem wordsB_len : wordsB.length = 81 := rfl
theorem kws_at : ∀ s ∈ kws, ∃ k, k + (s.length + 2) ≤ 81 ∧ (wordsB.drop k).take (s.length + 2) = 32 :: (s ++ [32]) := by
  intro s hs
  have h : ∀ s ∈ kws, ∃ k : Fin 81, k.val + (s.length + 2) ≤ 81 ∧ (wordsB.drop k.val).take (s.length + 2) = 32 :: (s ++ [32]) := by decide +kernel
  obtain ⟨k, h1, h2⟩ := h s hs
  exact ⟨k.val, h1, h2⟩
theorem kws_small : ∀ s ∈ kws, s.all isSmall = true := by decide +kernel
theorem kws_of_at (s : List UInt8) (k : Nat) (hs : s.all isSmall = true) (h0 : 0 < s.length) (h : (wordsB.drop k).take (s.length + 2) = 32 :: (s ++ [32])) : s ∈ kws := by
  have hk : k < 81 := by
    rcases Nat.lt_or_ge k 81 with h1 | h1
    · exact h1
    · rw [List.drop_eq_nil_of_le (by rw [wordsB_len]; exact h1)] at h
      simp at h
  have key : ∀ k : Fin 81, ((wordsB.drop (k.val + 1)).takeWhile isSmall) ∈ kws ∨ ((wordsB.drop (k.val + 1)).takeWhile isSmall) = [] ∨ wordsB[k.val]? ≠ some 32 := by decide +kernel
  have htw : (wordsB.drop (k + 1)).takeWhile isSmall = s := by
    have e : wordsB.drop (k + 1) = s ++ 32 :: (wordsB.drop k).drop (s.length + 2) := by
      have e1 : wordsB.drop k = (32 :: (s ++ [32])) ++ (wordsB.drop k).drop (s.length + 2) := by rw [← h, List.take_append_drop]
      have e2 : wordsB.drop (k + 1) = (wordsB.drop k).drop 1 := by rw [List.drop_drop]
      rw [e2]
      conv => lhs; rw [e1]
      simp
    rw [e, List.takeWhile_append_of_pos (by simpa using hs)]
    have : isSmall 32 = false := by decide
    simp [this]
  rcases key ⟨k, hk⟩ with h1 | h1 | h1
  · rwa [htw] at h1
  · rw [htw] at h1
    subst h1
    simp at h0
  · exfalso
    apply h1
    have : ((wordsB.drop k).take (s.length + 2))[0]? = some 32 := by rw [h]; rfl
    simpa [List.getElem?_take, List.getElem?_drop] using this

end Go.Proofs.YtoadmjnaakbljaaDoor
