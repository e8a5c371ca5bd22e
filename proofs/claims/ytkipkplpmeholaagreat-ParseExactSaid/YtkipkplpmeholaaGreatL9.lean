/- Bundle of LexW8 LexW9. -/
import Derived.Test.YtkipkplpmeholaaGreatLY

/- Walks: the reference's skipping, ends and tokens. -/
namespace Go.Proofs.YtkipkplpmeholaaGreat
open Go Go.RowKit

set_option maxHeartbeats 2000000
set_option maxRecDepth 100000

theorem refSkip_any (A : Option Addr) (c i : Nat) (bs : List UInt8) (w : World) (hb : RdB w A bs) (hi : i ≤ bs.length) (hmax : bs.length ≤ 140737488351232) :
    Calls Tryz.prog 30 #[.slice A bs.length c, .int .i64 i] w fun e w' => e = .returned (.int .i64 ((bs.length - (mSkip false (bs.drop i)).length : Nat) : Int)) ∧ w = w' := by
  go_enter Tryz.func30, Tryz.ntmps30
  go_wp2_with fail
  go_loop [1] (fun i' => ∃ k : Nat, k ≤ bs.length ∧ i' = .int .i64 k ∧ mSkip false (bs.drop k) = mSkip false (bs.drop i)) (fun i' => bs.length - (intOf i').toNat)
  case atStart => exact ⟨i, hi, rfl, rfl⟩
  case round =>
    obtain ⟨k, hk, rfl, he⟩ := hrel
    have he' := hide he; clear he
    by_cases hlt : k < bs.length
    · obtain ⟨ad, x, rfl, hc, hd⟩ := hb.at hlt
      have hd' := hide hd; clear hd
      cases hbl : isBlank x
      · have hbl' := hide hbl
        by_cases h35 : x.toNat = 35
        · have h35' : ((x.toNat : Int) == 35) = true := by rw [beq_iff_eq]; omega
          have h35'' := hide h35; clear h35
          go_wp2_with (go_at_call 59; with_reducible refine (refBlank_any x _).mono ?_; rintro e w' ⟨rfl, rfl⟩)
          go_loop [1] (fun i' => ∃ k' : Nat, k ≤ k' ∧ k' ≤ bs.length ∧ i' = .int .i64 k' ∧ mSkip true (bs.drop k') = mSkip false (bs.drop i)) (fun i' => bs.length - (intOf i').toNat)
          case atStart =>
            refine ⟨k, Nat.le_refl _, hk, rfl, ?_⟩
            rw [← he'.out, hd'.out, mSkip, mSkip, if_neg (by have := h35''.out; omega), if_neg (by rw [hbl'.out]; simp), if_pos h35''.out]
          case round =>
            obtain ⟨k', hk1, hk2, rfl, h2⟩ := hrel
            have h2' := hide h2; clear h2
            by_cases hlt2 : k' < bs.length
            · obtain ⟨ad', y, hA2, hc2, hd2⟩ := hb.at hlt2
              cases hA2
              have hd2' := hide hd2; clear hd2
              by_cases hy : y.toNat = 10
              · have hy' : ((y.toNat : Int) != 10) = false := by rw [bne_eq_false_iff_eq]; omega
                have hy2 := hide hy; clear hy
                go_wp2_with fail
                go_round
                case rel => exact ⟨k', by omega, by go_num, by rw [← h2'.out, hd2'.out, mSkip, mSkip, if_pos (by simp [isBlank, hy2.out]), if_pos hy2.out]⟩
                case measure =>
                  have hne : k ≠ k' := by
                    rintro rfl
                    have e := hd'.out.symm.trans hd2'.out
                    injection e with e
                    subst e
                    have := h35''.out
                    have := hy2.out
                    omega
                  simp [intOf]; omega
              · have hy' : ((y.toNat : Int) != 10) = true := by rw [bne_iff_ne]; omega
                have hy2 := hide hy; clear hy
                go_wp2_with fail
                go_round
                case rel => exact ⟨k' + 1, by omega, by omega, by go_num, by rw [← h2'.out, hd2'.out, mSkip, if_neg hy2.out]⟩
                case measure => simp [intOf]; omega
            · go_wp2_with fail
              go_round
              case rel => exact ⟨k', by omega, by go_num, by rw [← h2'.out, List.drop_eq_nil_of_le (by omega)]; rfl⟩
              case measure => simp [intOf]; omega
        · have h35' : ((x.toNat : Int) == 35) = false := by rw [beq_eq_false_iff_ne]; omega
          have h35'' := hide h35; clear h35
          go_wp2_with (go_at_call 59; with_reducible refine (refBlank_any x _).mono ?_; rintro e w' ⟨rfl, rfl⟩)
          go_ret
          refine ⟨ret_int ?_, rfl⟩
          rw [← he'.out, hd'.out, mSkip, if_neg (by rw [hbl'.out]; simp), if_neg h35''.out, ← hd'.out, List.length_drop]
          omega
      · have hbl' := hide hbl
        have h35 : x.toNat ≠ 35 := by
          have := hbl
          simp only [isBlank, Bool.or_eq_true, beq_iff_eq] at this
          omega
        have h35' : ((x.toNat : Int) == 35) = false := by rw [beq_eq_false_iff_ne]; omega
        clear h35
        go_wp2_with (go_at_call 59; with_reducible refine (refBlank_any x _).mono ?_; rintro e w' ⟨rfl, rfl⟩)
        go_round
        case rel => exact ⟨k + 1, by omega, by go_num, by rw [← he'.out, hd'.out, mSkip, if_pos hbl'.out]⟩
        case measure => simp [intOf]; omega
    · go_wp2_with fail
      go_ret
      have : k = bs.length := by omega
      subst this
      refine ⟨ret_int ?_, rfl⟩
      rw [← he'.out, List.drop_eq_nil_of_le (Nat.le_refl _)]
      simp [mSkip]

theorem span_at {w : World} {ad : Addr} {bs : List UInt8} (hb : RdB w (some ad) bs) (k : Nat) (p : UInt8 → Bool) :
    (∃ y, k < bs.length ∧ w.cell? (ad.add k) = some (.int .u8 (y.toNat : Int)) ∧ Hid (bs.drop k = y :: bs.drop (k + 1)) ∧ Hid (p y = true)) ∨
    (∃ y, k < bs.length ∧ w.cell? (ad.add k) = some (.int .u8 (y.toNat : Int)) ∧ Hid (bs.drop k = y :: bs.drop (k + 1)) ∧ Hid (p y = false) ∧ Hid ((bs.drop k).takeWhile p = [])) ∨
    (bs.length ≤ k ∧ Hid ((bs.drop k).takeWhile p = [])) := by
  by_cases hlt : k < bs.length
  · obtain ⟨ad', y, hA, hc, hdy⟩ := hb.at hlt
    cases hA
    cases hp : p y
    · exact .inr (.inl ⟨y, hlt, hc, hide hdy, hide hp, hide (by rw [hdy]; simp [hp])⟩)
    · exact .inl ⟨y, hlt, hc, hide hdy, hide hp⟩
  · exact .inr (.inr ⟨by omega, hide (by rw [List.drop_eq_nil_of_le (by omega)]; rfl)⟩)

/-- how long the token is that begins here; 0: none does -/
def refLen : List UInt8 → Nat
  | [] => 0
  | c :: r =>
    if isSmall c then (c :: r.takeWhile isPart).length
    else if isDig c || c.toNat == 126 then (c :: r.takeWhile isDig).length
    else if c.toNat = 34 then (if (r.takeWhile notQ).length < r.length then (r.takeWhile notQ).length + 2 else 0)
    else signLen (c :: r)
def endV (i n : Nat) : Nat := if n = 0 then 0 else i + n
theorem refLen_small {c : UInt8} {r : List UInt8} (h : isSmall c = true) : refLen (c :: r) = (c :: r.takeWhile isPart).length := by rw [refLen, if_pos h]
theorem refLen_num {c : UInt8} {r : List UInt8} (h : isSmall c = false) (h2 : isDig c = true ∨ c.toNat = 126) : refLen (c :: r) = (c :: r.takeWhile isDig).length := by
  rw [refLen, if_neg (by simp [h]), if_pos (by simpa using h2)]
theorem refLen_text {r : List UInt8} : refLen (34 :: r) = if (r.takeWhile notQ).length < r.length then (r.takeWhile notQ).length + 2 else 0 := by rfl
theorem refLen_sign {c : UInt8} {r : List UInt8} (h : isSmall c = false) (h2 : isDig c = false) (h3 : c.toNat ≠ 126) (h4 : c.toNat ≠ 34) : refLen (c :: r) = signLen (c :: r) := by
  rw [refLen, if_neg (by simp [h]), if_neg (by simp [h2, h3]), if_neg h4]

theorem refEnd_a (ad : Addr) (c i : Nat) (bs : List UInt8) (w : World) (hb : RdB w (some ad) bs) (hi : i < bs.length) (hmax : bs.length ≤ 1000000) (x : UInt8) (r : List UInt8) (hc : w.cell? (ad.add i) = some (.int .u8 (x.toNat : Int))) (hx' : Hid (bs.drop i = x :: r)) (hr' : Hid (r = bs.drop (i + 1)))
    (hcls : isSmall x = true ∨ (isSmall x = false ∧ isDig x = true) ∨ (isSmall x = false ∧ isDig x = false ∧ x.toNat = 126)) :
    Calls Tryz.prog 31 #[.slice (some ad) bs.length c, .int .i64 i] w fun e w' => e = .returned (.int .i64 (endV i (refLen (bs.drop i)) : Nat)) ∧ w = w' := by
  rcases hcls with f1 | ⟨f1, f2⟩ | ⟨f1, f2, f3⟩
  · have hll := hide (refLen_small (r := r) f1)
    go_enter Tryz.func31, Tryz.ntmps31
    go_wp2_with (first | (go_at_call 60; with_reducible refine (refLower_any x _).mono ?_; rintro e w' ⟨rfl, rfl⟩) | (go_at_call 62; with_reducible refine (refDigit_any x _).mono ?_; rintro e w' ⟨rfl, rfl⟩))
    go_loop [6] (fun j => ∃ k : Nat, i < k ∧ k ≤ bs.length ∧ j = .int .i64 k ∧ x :: r.takeWhile isPart = (bs.drop i).take (k - i) ++ (bs.drop k).takeWhile isPart) (fun j => bs.length - (intOf j).toNat)
    case atStart =>
      refine ⟨i + 1, by omega, by omega, by go_num, ?_⟩
      rw [hx'.out, hr'.out, show i + 1 - i = 1 by omega]
      rfl
    case round =>
      obtain ⟨k, hik, hk, rfl, he⟩ := hrel
      have he' := hide he; clear he
      rcases span_at hb k isPart with ⟨y, hlt, hcy, hdy', hp'⟩ | ⟨y, hlt, hcy, hdy', hp', hq⟩ | ⟨hge, hq⟩
      · go_wp2_with (go_at_call 61; with_reducible refine (refPart_any y _).mono ?_; rintro e w' ⟨rfl, rfl⟩; rw [hp'.out])
        go_round
        case rel =>
          refine ⟨k + 1, by omega, by omega, by go_num, ?_⟩
          rw [he'.out, take_step (by omega) hdy'.out, hdy'.out]
          simp [hp'.out]
        case measure => simp [intOf]; omega
      all_goals
        have hlen : (x :: r.takeWhile isPart).length = k - i := by
          rw [he'.out, hq.out, List.append_nil]
          simp
          omega
        have hlen' := hide hlen; clear hlen
        go_wp2_with (go_at_call 61; with_reducible refine (refPart_any y _).mono ?_; rintro e w' ⟨rfl, rfl⟩; rw [hp'.out])
        go_ret
        refine ⟨ret_int ?_, rfl⟩
        rw [hx'.out, hll.out, hlen'.out, endV, if_neg (by omega)]
        omega
  · have hll := hide (refLen_num (r := r) f1 (.inl f2))
    go_enter Tryz.func31, Tryz.ntmps31
    go_wp2_with (first | (go_at_call 60; with_reducible refine (refLower_any x _).mono ?_; rintro e w' ⟨rfl, rfl⟩) | (go_at_call 62; with_reducible refine (refDigit_any x _).mono ?_; rintro e w' ⟨rfl, rfl⟩))
    go_loop [6] (fun j => ∃ k : Nat, i < k ∧ k ≤ bs.length ∧ j = .int .i64 k ∧ x :: r.takeWhile isDig = (bs.drop i).take (k - i) ++ (bs.drop k).takeWhile isDig) (fun j => bs.length - (intOf j).toNat)
    case atStart =>
      refine ⟨i + 1, by omega, by omega, by go_num, ?_⟩
      rw [hx'.out, hr'.out, show i + 1 - i = 1 by omega]
      rfl
    case round =>
      obtain ⟨k, hik, hk, rfl, he⟩ := hrel
      have he' := hide he; clear he
      rcases span_at hb k isDig with ⟨y, hlt, hcy, hdy', hp'⟩ | ⟨y, hlt, hcy, hdy', hp', hq⟩ | ⟨hge, hq⟩
      · go_wp2_with (go_at_call 62; with_reducible refine (refDigit_any y _).mono ?_; rintro e w' ⟨rfl, rfl⟩; rw [hp'.out])
        go_round
        case rel =>
          refine ⟨k + 1, by omega, by omega, by go_num, ?_⟩
          rw [he'.out, take_step (by omega) hdy'.out, hdy'.out]
          simp [hp'.out]
        case measure => simp [intOf]; omega
      all_goals
        have hlen : (x :: r.takeWhile isDig).length = k - i := by
          rw [he'.out, hq.out, List.append_nil]
          simp
          omega
        have hlen' := hide hlen; clear hlen
        go_wp2_with (go_at_call 62; with_reducible refine (refDigit_any y _).mono ?_; rintro e w' ⟨rfl, rfl⟩; rw [hp'.out])
        go_ret
        refine ⟨ret_int ?_, rfl⟩
        rw [hx'.out, hll.out, hlen'.out, endV, if_neg (by omega)]
        omega
  · have hll := hide (refLen_num (r := r) f1 (.inr f3))
    have f4 : ((x.toNat : Int) == 126) = true := by rw [beq_iff_eq]; omega
    clear f3
    go_enter Tryz.func31, Tryz.ntmps31
    go_wp2_with (first | (go_at_call 60; with_reducible refine (refLower_any x _).mono ?_; rintro e w' ⟨rfl, rfl⟩) | (go_at_call 62; with_reducible refine (refDigit_any x _).mono ?_; rintro e w' ⟨rfl, rfl⟩))
    go_loop [6] (fun j => ∃ k : Nat, i < k ∧ k ≤ bs.length ∧ j = .int .i64 k ∧ x :: r.takeWhile isDig = (bs.drop i).take (k - i) ++ (bs.drop k).takeWhile isDig) (fun j => bs.length - (intOf j).toNat)
    case atStart =>
      refine ⟨i + 1, by omega, by omega, by go_num, ?_⟩
      rw [hx'.out, hr'.out, show i + 1 - i = 1 by omega]
      rfl
    case round =>
      obtain ⟨k, hik, hk, rfl, he⟩ := hrel
      have he' := hide he; clear he
      rcases span_at hb k isDig with ⟨y, hlt, hcy, hdy', hp'⟩ | ⟨y, hlt, hcy, hdy', hp', hq⟩ | ⟨hge, hq⟩
      · go_wp2_with (go_at_call 62; with_reducible refine (refDigit_any y _).mono ?_; rintro e w' ⟨rfl, rfl⟩; rw [hp'.out])
        go_round
        case rel =>
          refine ⟨k + 1, by omega, by omega, by go_num, ?_⟩
          rw [he'.out, take_step (by omega) hdy'.out, hdy'.out]
          simp [hp'.out]
        case measure => simp [intOf]; omega
      all_goals
        have hlen : (x :: r.takeWhile isDig).length = k - i := by
          rw [he'.out, hq.out, List.append_nil]
          simp
          omega
        have hlen' := hide hlen; clear hlen
        go_wp2_with (go_at_call 62; with_reducible refine (refDigit_any y _).mono ?_; rintro e w' ⟨rfl, rfl⟩; rw [hp'.out])
        go_ret
        refine ⟨ret_int ?_, rfl⟩
        rw [hx'.out, hll.out, hlen'.out, endV, if_neg (by omega)]
        omega

theorem refEnd_t (ad : Addr) (c i : Nat) (bs : List UInt8) (w : World) (hb : RdB w (some ad) bs) (hi : i < bs.length) (hmax : bs.length ≤ 1000000) (x : UInt8) (r : List UInt8) (hc : w.cell? (ad.add i) = some (.int .u8 (x.toNat : Int))) (hx' : Hid (bs.drop i = x :: r)) (hr' : Hid (r = bs.drop (i + 1)))
    (f1 : isSmall x = false) (f2 : isDig x = false) (hx34 : x.toNat = 34) :
    Calls Tryz.prog 31 #[.slice (some ad) bs.length c, .int .i64 i] w fun e w' => e = .returned (.int .i64 (endV i (refLen (bs.drop i)) : Nat)) ∧ w = w' := by
  have f3 : ((x.toNat : Int) == 126) = false := by rw [beq_eq_false_iff_ne]; omega
  have f4 : ((x.toNat : Int) == 34) = true := by rw [beq_iff_eq]; omega
  have hll : refLen (bs.drop i) = if (r.takeWhile notQ).length < r.length then (r.takeWhile notQ).length + 2 else 0 := by
    have : x = 34 := UInt8.toNat_inj.1 hx34
    rw [hx'.out, this, refLen_text]
  have hll' := hide hll; clear hll hx34
  go_enter Tryz.func31, Tryz.ntmps31
  go_wp2_with (first | (go_at_call 60; with_reducible refine (refLower_any x _).mono ?_; rintro e w' ⟨rfl, rfl⟩) | (go_at_call 62; with_reducible refine (refDigit_any x _).mono ?_; rintro e w' ⟨rfl, rfl⟩))
  go_loop [6] (fun j => ∃ k : Nat, i < k ∧ k ≤ bs.length ∧ j = .int .i64 k ∧ r.takeWhile notQ = (bs.drop (i + 1)).take (k - (i + 1)) ++ (bs.drop k).takeWhile notQ) (fun j => bs.length - (intOf j).toNat)
  case atStart =>
    refine ⟨i + 1, by omega, by omega, by go_num, ?_⟩
    rw [hr'.out, Nat.sub_self]
    rfl
  case round =>
    obtain ⟨k, hik, hk, rfl, he⟩ := hrel
    have he' := hide he; clear he
    rcases span_at hb k notQ with ⟨y, hlt, hcy, hdy', hp'⟩ | ⟨y, hlt, hcy, hdy', hp', hq⟩ | ⟨hge, hq⟩
    · have hy : ((y.toNat : Int) != 34) = true := by
        have := hp'.out
        simp only [notQ, bne_iff_ne] at *
        omega
      go_wp2_with fail
      go_round
      case rel =>
        refine ⟨k + 1, by omega, by omega, by go_num, ?_⟩
        rw [he'.out, take_step (by omega) hdy'.out, hdy'.out]
        simp [hp'.out]
      case measure => simp [intOf]; omega
    · have hy : ((y.toNat : Int) != 34) = false := by
        have := hp'.out
        simp only [notQ, bne_eq_false_iff_eq] at *
        omega
      have hkn : ((k : Int) == (bs.length : Int)) = false := by rw [beq_eq_false_iff_ne]; omega
      have hlen : (r.takeWhile notQ).length = k - (i + 1) := by
        rw [he'.out, hq.out, List.append_nil]
        simp
        omega
      have hrl : r.length = bs.length - (i + 1) := by rw [hr'.out, List.length_drop]
      have hlen' := hide hlen; have hrl' := hide hrl; clear hlen hrl
      go_wp2_with fail
      go_ret
      refine ⟨ret_int ?_, rfl⟩
      rw [hll'.out, hlen'.out, if_pos (by rw [hrl'.out]; omega), endV, if_neg (by omega)]
      omega
    · have hkn : ((k : Int) == (bs.length : Int)) = true := by rw [beq_iff_eq]; omega
      have hlen : (r.takeWhile notQ).length = r.length := by
        rw [he'.out, hq.out, List.append_nil, hr'.out]
        simp
        omega
      have hlen' := hide hlen; clear hlen
      go_wp2_with fail
      go_ret
      refine ⟨ret_int ?_, rfl⟩
      rw [hll'.out, hlen'.out, if_neg (by omega)]
      rfl

def signsB : List UInt8 := [40, 41, 91, 93, 44, 58, 61, 124, 43, 45, 42, 47, 60, 63, 95]
theorem take_contains (k : Nat) (hk : k < 15) (x : UInt8) : (signsB.take (k + 1)).contains x = ((signsB.take k).contains x || signsB[k]'hk == x) := by
  have key : ∀ k : Fin 15, ∀ n : Fin 256, (signsB.take (k.val + 1)).contains (UInt8.ofNat n.val) = ((signsB.take k.val).contains (UInt8.ofNat n.val) || signsB[k.val]'k.isLt == UInt8.ofNat n.val) := by decide +kernel
  have := key ⟨k, hk⟩ ⟨x.toNat, x.toNat_lt⟩
  simpa using this
theorem signLen_two {x : UInt8} {r : List UInt8} {a b : UInt8} (h : x :: r.take 1 = [a, b]) (h2 : twoSign a b = true) : signLen (x :: r) = 2 := by
  match r, h with
  | y :: r', h =>
    simp only [List.take_succ_cons, List.take_zero, List.cons.injEq, and_true] at h
    obtain ⟨rfl, rfl⟩ := h
    simp [signLen, h2]
theorem signLen_not {x : UInt8} {r : List UInt8} (h1 : x :: r.take 1 ≠ [45, 62]) (h2 : x :: r.take 1 ≠ [58, 58]) (h3 : x :: r.take 1 ≠ [61, 61]) : signLen (x :: r) = if oneSign x then 1 else 0 := by
  match r with
  | [] => simp [signLen]
  | y :: r' =>
    simp only [List.take_succ_cons, List.take_zero] at h1 h2 h3
    have e : twoSign x y = false := by
      cases hh : twoSign x y
      · rfl
      · simp only [twoSign, Bool.or_eq_true, Bool.and_eq_true, beq_iff_eq] at hh
        rcases hh with (⟨rfl, rfl⟩ | ⟨rfl, rfl⟩) | ⟨rfl, rfl⟩ <;> simp at h1 h2 h3
    simp [signLen, e]

theorem refEnd_s (ad : Addr) (c i : Nat) (bs : List UInt8) (w : World) (hb : RdB w (some ad) bs) (hi : i < bs.length) (hcap : bs.length ≤ c) (hmax : bs.length ≤ 1000000) (x : UInt8) (r : List UInt8) (hc : w.cell? (ad.add i) = some (.int .u8 (x.toNat : Int))) (hx' : Hid (bs.drop i = x :: r)) (hr' : Hid (r = bs.drop (i + 1)))
    (f1 : isSmall x = false) (f2 : isDig x = false) (g3 : x.toNat ≠ 126) (g4 : x.toNat ≠ 34) :
    Calls Tryz.prog 31 #[.slice (some ad) bs.length c, .int .i64 i] w fun e w' => e = .returned (.int .i64 (endV i (refLen (bs.drop i)) : Nat)) ∧ w = w' := by
  have f3 : ((x.toNat : Int) == 126) = false := by rw [beq_eq_false_iff_ne]; omega
  have f4 : ((x.toNat : Int) == 34) = false := by rw [beq_eq_false_iff_ne]; omega
  have hll : refLen (bs.drop i) = signLen (x :: r) := by rw [hx'.out, refLen_sign f1 f2 g3 g4]
  have hll' := hide hll; clear hll g3 g4
  have hne : ¬ c = i := by omega
  -- the two bytes
  obtain ⟨s, hs, htwo⟩ : ∃ s : List UInt8, s = (bs.drop i).take 2 ∧ ((s == [45, 62]) = true ∨ ((s == [45, 62]) = false ∧ (s == [58, 58]) = true) ∨ ((s == [45, 62]) = false ∧ (s == [58, 58]) = false ∧ (s == [61, 61]) = true) ∨ ((s == [45, 62]) = false ∧ (s == [58, 58]) = false ∧ (s == [61, 61]) = false)) := by
    refine ⟨_, rfl, ?_⟩
    cases (List.take 2 (bs.drop i) == [45, 62]) <;> cases (List.take 2 (bs.drop i) == [58, 58]) <;> cases (List.take 2 (bs.drop i) == [61, 61]) <;> simp
  have hs2 : s = x :: r.take 1 := by rw [hs, hx'.out]; rfl
  have hs' := hide hs2
  have hcv : ∀ m, m = min 2 (bs.length - i) → (convert 22 9 (.slice (some (ad.add i)) m (c - i))).run Tryz.prog w = .ok (str s) w := fun m hm => by
    rw [hs, hm]
    refine run_conv ?_ (by simp) Tryz.underlying22 Tryz.underlying5 Tryz.underlying9
    exact hb.sub i 2
  clear hs hs2
  have htwo' : (∃ a b, s = [a, b] ∧ twoSign a b = true ∧ ((s == [45, 62]) = true ∨ ((s == [45, 62]) = false ∧ (s == [58, 58]) = true) ∨ ((s == [45, 62]) = false ∧ (s == [58, 58]) = false ∧ (s == [61, 61]) = true))) ∨ ((s == [45, 62]) = false ∧ (s == [58, 58]) = false ∧ (s == [61, 61]) = false) := by
    rcases htwo with q | ⟨q0, q⟩ | ⟨q0, q1, q⟩ | ⟨q0, q1, q2⟩
    · exact .inl ⟨45, 62, beq_iff_eq.1 q, rfl, .inl q⟩
    · exact .inl ⟨58, 58, beq_iff_eq.1 q, rfl, .inr (.inl ⟨q0, q⟩)⟩
    · exact .inl ⟨61, 61, beq_iff_eq.1 q, rfl, .inr (.inr ⟨q0, q1, q⟩)⟩
    · exact .inr ⟨q0, q1, q2⟩
  clear htwo
  rcases htwo' with ⟨a, b, hsab, hab, hq⟩ | ⟨q0, q1, q2⟩
  · have hl2 : signLen (x :: r) = 2 := signLen_two (by rw [← hs'.out]; exact hsab) hab
    have hl : (i : Int) + 1 < bs.length := by
      have h1 : r.length ≥ 1 := by
        have := hs'.out
        rw [hsab] at this
        match r, this with
        | y :: r', _ => simp
      have h2 : r.length = bs.length - (i + 1) := by rw [hr'.out, List.length_drop]
      omega
    have hl2' := hide hl2
    clear hl2 hsab hab
    have hcv2 := hcv 2 (by omega)
    clear hcv
    rcases hq with q | ⟨q0, q⟩ | ⟨q0, q1, q⟩
    all_goals
      go_enter Tryz.func31, Tryz.ntmps31
      go_wp2_with (first | (go_at_call 60; with_reducible refine (refLower_any x _).mono ?_; rintro e w' ⟨rfl, rfl⟩) | (go_at_call 62; with_reducible refine (refDigit_any x _).mono ?_; rintro e w' ⟨rfl, rfl⟩))
      go_ret
      refine ⟨ret_int ?_, rfl⟩
      rw [hll'.out, hl2'.out, endV, if_neg (by decide)]
      omega
  · have hsl : signLen (x :: r) = if oneSign x then 1 else 0 := by
      rw [beq_eq_false_iff_ne, hs'.out] at q0 q1 q2
      exact signLen_not q0 q1 q2
    have hsl' := hide hsl; clear hsl
    have hcv2 := hcv (min 2 (bs.length - i)) rfl
    have hcv1 := hcv
    rcases (show (i : Int) + 1 < bs.length ∨ (bs.length : Int) = i + 1 from by omega) with hl | hl
    · have hcv3 := hcv 2 (by omega)
      clear hcv hcv1 hcv2
      go_enter Tryz.func31, Tryz.ntmps31
      go_wp2_with (first | (go_at_call 60; with_reducible refine (refLower_any x _).mono ?_; rintro e w' ⟨rfl, rfl⟩) | (go_at_call 62; with_reducible refine (refDigit_any x _).mono ?_; rintro e w' ⟨rfl, rfl⟩))
      go_loop [8, 9] (fun one kk => ∃ (k : Nat) (o : Bool), k ≤ 15 ∧ kk = .int .i64 k ∧ one = .bool o ∧ o = (signsB.take k).contains x) (fun _ kk => 15 - (intOf kk).toNat)
      case atStart => exact ⟨0, false, by omega, rfl, rfl, rfl⟩
      case round =>
        obtain ⟨k, o, hk, rfl, rfl, ho⟩ := hrel
        have ho' := hide ho; clear ho
        by_cases hlt : k < 15
        · have hstep := take_contains k hlt x
          obtain ⟨y, hy⟩ : ∃ y : UInt8, signsB[k]'hlt = y := ⟨_, rfl⟩
          rw [hy] at hstep
          have hstep' := hide hstep; clear hstep
          unfold signsB at hy
          have hk' : (k : Int) < 15 := by omega
          cases o
          · cases hxy : ((y.toNat : Int) == (x.toNat : Int))
            all_goals
              have hyx : (y == x) = ((y.toNat : Int) == (x.toNat : Int)) := by
                rw [Bool.eq_iff_iff, beq_iff_eq, beq_iff_eq, ← UInt8.toNat_inj]
                omega
              rw [hxy] at hyx
              have hyx' := hide hyx; clear hyx
              go_wp2_with fail
              go_round
              case rel => exact ⟨k + 1, _, by omega, by go_num, rfl, by rw [hstep'.out, ← ho'.out, hyx'.out]; rfl⟩
              case measure => simp [intOf]; omega
          · go_wp2_with fail
            go_round
            case rel => exact ⟨k + 1, _, by omega, by go_num, rfl, by rw [hstep'.out, ← ho'.out]; rfl⟩
            case measure => simp [intOf]; omega
        · have hk15 : k = 15 := by omega
          subst hk15
          have ho1 : oneSign x = o := by rw [ho'.out]; rfl
          have ho1' := hide ho1; clear ho1
          cases o
          all_goals
            go_wp2_with fail
            go_ret
            refine ⟨ret_int ?_, rfl⟩
            rw [hll'.out, hsl'.out, ho1'.out]
            first
              | rfl
              | (rw [if_pos rfl, endV, if_neg (by decide)]; omega)
    · have hcv3 := hcv (bs.length - i) (by omega)
      clear hcv hcv1 hcv2
      have hl' : (bs.length : Int) ≤ i + 1 := by omega
      have hl2 := hide hl; clear hl
      go_enter Tryz.func31, Tryz.ntmps31
      go_wp2_with (first | (go_at_call 60; with_reducible refine (refLower_any x _).mono ?_; rintro e w' ⟨rfl, rfl⟩) | (go_at_call 62; with_reducible refine (refDigit_any x _).mono ?_; rintro e w' ⟨rfl, rfl⟩))
      go_loop [8, 9] (fun one kk => ∃ (k : Nat) (o : Bool), k ≤ 15 ∧ kk = .int .i64 k ∧ one = .bool o ∧ o = (signsB.take k).contains x) (fun _ kk => 15 - (intOf kk).toNat)
      case atStart => exact ⟨0, false, by omega, rfl, rfl, rfl⟩
      case round =>
        obtain ⟨k, o, hk, rfl, rfl, ho⟩ := hrel
        have ho' := hide ho; clear ho
        by_cases hlt : k < 15
        · have hstep := take_contains k hlt x
          obtain ⟨y, hy⟩ : ∃ y : UInt8, signsB[k]'hlt = y := ⟨_, rfl⟩
          rw [hy] at hstep
          have hstep' := hide hstep; clear hstep
          unfold signsB at hy
          have hk' : (k : Int) < 15 := by omega
          cases o
          · cases hxy : ((y.toNat : Int) == (x.toNat : Int))
            all_goals
              have hyx : (y == x) = ((y.toNat : Int) == (x.toNat : Int)) := by
                rw [Bool.eq_iff_iff, beq_iff_eq, beq_iff_eq, ← UInt8.toNat_inj]
                omega
              rw [hxy] at hyx
              have hyx' := hide hyx; clear hyx
              go_wp2_with fail
              go_round
              case rel => exact ⟨k + 1, _, by omega, by go_num, rfl, by rw [hstep'.out, ← ho'.out, hyx'.out]; rfl⟩
              case measure => simp [intOf]; omega
          · go_wp2_with fail
            go_round
            case rel => exact ⟨k + 1, _, by omega, by go_num, rfl, by rw [hstep'.out, ← ho'.out]; rfl⟩
            case measure => simp [intOf]; omega
        · have hk15 : k = 15 := by omega
          subst hk15
          have ho1 : oneSign x = o := by rw [ho'.out]; rfl
          have ho1' := hide ho1; clear ho1
          cases o
          all_goals
            go_wp2_with fail
            go_ret
            refine ⟨ret_int ?_, rfl⟩
            rw [hll'.out, hsl'.out, ho1'.out]
            first
              | rfl
              | (rw [if_pos rfl, endV, if_neg (by decide)]; omega)

theorem refEnd_any (A : Option Addr) (c i : Nat) (bs : List UInt8) (w : World) (hb : RdB w A bs) (hi : i < bs.length) (hcap : bs.length ≤ c) (hmax : bs.length ≤ 1000000) :
    Calls Tryz.prog 31 #[.slice A bs.length c, .int .i64 i] w fun e w' => e = .returned (.int .i64 (endV i (refLen (bs.drop i)) : Nat)) ∧ w = w' := by
  obtain ⟨ad, x, rfl, hc, hd⟩ := hb.at hi
  cases h1 : isSmall x
  · cases h2 : isDig x
    · by_cases h3 : x.toNat = 126
      · exact refEnd_a ad c i bs w hb hi hmax x _ hc (hide hd) (hide rfl) (.inr (.inr ⟨h1, h2, h3⟩))
      · by_cases h4 : x.toNat = 34
        · exact refEnd_t ad c i bs w hb hi hmax x _ hc (hide hd) (hide rfl) h1 h2 h4
        · exact refEnd_s ad c i bs w hb hi hcap hmax x _ hc (hide hd) (hide rfl) h1 h2 h3 h4
    · exact refEnd_a ad c i bs w hb hi hmax x _ hc (hide hd) (hide rfl) (.inr (.inl ⟨h1, h2⟩))
  · exact refEnd_a ad c i bs w hb hi hmax x _ hc (hide hd) (hide rfl) (.inl h1)

theorem take_takeWhile {α : Type} (p : α → Bool) (l : List α) : l.take (l.takeWhile p).length = l.takeWhile p :=
  (List.prefix_iff_eq_take.1 (List.takeWhile_prefix p)).symm
theorem take_quote : ∀ (r : List UInt8), (r.takeWhile notQ).length < r.length → r.take ((r.takeWhile notQ).length + 1) = r.takeWhile notQ ++ [34]
  | [], h => by simp at h
  | c :: r, h => by
    cases hc : notQ c
    · have : c = 34 := by
        simp only [notQ, bne_eq_false_iff_eq] at hc
        exact UInt8.toNat_inj.1 hc
      subst this
      have e : (34 :: r).takeWhile notQ = [] := by simp [hc]
      rw [e]
      rfl
    · simp only [List.takeWhile_cons, hc, if_true, List.length_cons] at h ⊢
      rw [List.take_succ_cons, take_quote r (by omega)]
      rfl

/-- the kinds of tokens, by their first byte -/
theorem tok_small {x : UInt8} {r : List UInt8} (h : isSmall x = true) : ∃ s, s = (x :: r).take (refLen (x :: r)) ∧ s.length = refLen (x :: r) ∧ mTok (x :: r) = mWord s := by
  refine ⟨x :: r.takeWhile isPart, ?_, by rw [refLen_small h], by rw [mTok, if_pos h]⟩
  rw [refLen_small h, List.length_cons, List.take_succ_cons, take_takeWhile]
theorem tok_num {x : UInt8} {r : List UInt8} (h : isSmall x = false) (h2 : isDig x = true ∨ x.toNat = 126) : ∃ s, s = (x :: r).take (refLen (x :: r)) ∧ s.length = refLen (x :: r) ∧ mTok (x :: r) = mNumber s := by
  refine ⟨x :: r.takeWhile isDig, ?_, by rw [refLen_num h h2], ?_⟩
  · rw [refLen_num h h2, List.length_cons, List.take_succ_cons, take_takeWhile]
  · rw [mTok, if_neg (by simp [h]), if_pos (by simpa using h2)]
theorem tok_text {r : List UInt8} (h : refLen (34 :: r) ≠ 0) : ∃ s, s = (34 :: r).take (refLen (34 :: r)) ∧ s.length = refLen (34 :: r) ∧ mTok (34 :: r) = match mUnquote s with | some t => some (⟨4, t, 0⟩, s.length) | none => none := by
  rw [refLen_text] at h ⊢
  by_cases hlt : (r.takeWhile notQ).length < r.length
  · rw [if_pos hlt]
    refine ⟨34 :: (r.takeWhile notQ ++ [34]), ?_, by simp, ?_⟩
    · rw [List.take_succ_cons, take_quote r hlt]
    · have e : mTok (34 :: r) = if (r.takeWhile notQ).length < r.length then (match mUnquote (34 :: (r.takeWhile notQ ++ [34])) with | some t => some (⟨4, t, 0⟩, (r.takeWhile notQ).length + 2) | none => none) else none := rfl
      rw [e, if_pos hlt]
      simp
  · rw [if_neg hlt] at h
    exact absurd rfl h
theorem tok_sign {x : UInt8} {r : List UInt8} (h : isSmall x = false) (h2 : isDig x = false) (h3 : x.toNat ≠ 126) (h4 : x.toNat ≠ 34) (h0 : refLen (x :: r) ≠ 0) : ∃ s, s = (x :: r).take (refLen (x :: r)) ∧ s.length = refLen (x :: r) ∧ mTok (x :: r) = some (⟨5, s, 0⟩, s.length) := by
  rw [refLen_sign h h2 h3 h4] at h0 ⊢
  have hle := signLen_le (x :: r)
  have hl : ((x :: r).take (signLen (x :: r))).length = signLen (x :: r) := by rw [List.length_take]; omega
  refine ⟨_, rfl, hl, ?_⟩
  rw [mTok, if_neg (by simp [h]), if_neg (by simp [h2, h3]), if_neg h4, mSign, if_neg h0, hl]
theorem tok_none {x : UInt8} {r : List UInt8} (h0 : refLen (x :: r) = 0) : mTok (x :: r) = none := by
  cases h : isSmall x
  · by_cases h2 : isDig x = true ∨ x.toNat = 126
    · rw [refLen_num h h2] at h0
      simp at h0
    · have h3 : isDig x = false := by
        cases hd : isDig x
        · rfl
        · exact absurd (.inl hd) h2
      have h3' : x.toNat ≠ 126 := fun e => h2 (.inr e)
      by_cases h4 : x.toNat = 34
      · have : x = 34 := UInt8.toNat_inj.1 h4
        subst this
        rw [refLen_text] at h0
        have e : mTok (34 :: r) = if (r.takeWhile notQ).length < r.length then (match mUnquote (34 :: (r.takeWhile notQ ++ [34])) with | some t => some (⟨4, t, 0⟩, (r.takeWhile notQ).length + 2) | none => none) else none := rfl
        rw [e]
        split at h0
        · omega
        · rename_i hn
          rw [if_neg hn]
      · rw [refLen_sign h h3 h3' h4] at h0
        rw [mTok, if_neg (by simp [h]), if_neg (by simp [h3, h3']), if_neg h4, mSign, if_pos h0]
  · rw [refLen_small h] at h0
    simp at h0
theorem refLen_le (l : List UInt8) : refLen l ≤ l.length := by
  match l with
  | [] => simp [refLen]
  | x :: r =>
    cases h : isSmall x
    · by_cases h2 : isDig x = true ∨ x.toNat = 126
      · rw [refLen_num h h2]
        have := takeWhile_le isDig r
        simp only [List.length_cons]
        omega
      · have h3 : isDig x = false := by
          cases hd : isDig x
          · rfl
          · exact absurd (.inl hd) h2
        have h3' : x.toNat ≠ 126 := fun e => h2 (.inr e)
        by_cases h4 : x.toNat = 34
        · have : x = 34 := UInt8.toNat_inj.1 h4
          subst this
          rw [refLen_text]
          split
          · simp only [List.length_cons]
            omega
          · omega
        · rw [refLen_sign h h3 h3' h4]
          exact signLen_le _
    · rw [refLen_small h]
      have := takeWhile_le isPart r
      simp only [List.length_cons]
      omega

theorem kept_cells2 {w w1 : World} {cs ds : Array Value} {T S : TypeId} (h : Below ((w.alloc (.cells cs T)).alloc (.cells ds S)).heap.size ((w.alloc (.cells cs T)).alloc (.cells ds S)) w1) :
    (∀ j, w1.cell? ⟨w.heap.size, j, none⟩ = cs[j]?) ∧ (∀ j, w1.frozen? ⟨w.heap.size, j, none⟩ = false) ∧ (∀ j, w1.cell? ⟨w.heap.size + 1, j, none⟩ = ds[j]?) ∧ (∀ j, w1.frozen? ⟨w.heap.size + 1, j, none⟩ = false) ∧ w.heap.size + 1 < w1.heap.size ∧ Below w.heap.size w w1 := by
  have hs : ((w.alloc (.cells cs T)).alloc (.cells ds S)).heap.size = w.heap.size + 2 := by simp
  obtain ⟨a1, a2, a3, a4⟩ := kept_cells (w := w.alloc (.cells cs T)) h
  have hs1 : (w.alloc (.cells cs T)).heap.size = w.heap.size + 1 := by simp
  rw [hs1] at a1 a2 a3
  obtain ⟨b1, b2, b3, b4⟩ := kept_cells a4
  exact ⟨b1, b2, a1, a2, a3, b4⟩

theorem refToken_any (A : Option Addr) (c i j : Nat) (bs : List UInt8) (w : World) (hb : RdB w A bs) (hi : i < bs.length) (hcap : bs.length ≤ c) (hmax : bs.length ≤ 1000000) (h0 : refLen (bs.drop i) ≠ 0) (hj : j = i + refLen (bs.drop i)) :
    Calls Tryz.prog 32 #[.slice A bs.length c, .int .i64 i, .int .i64 j] w fun e w' => LexRes (mTok (bs.drop i)) i e ∧ Below w.heap.size w w' := by
  obtain ⟨ad, x, rfl, hc, hd⟩ := hb.at hi
  have hne : ¬ c = i := by omega
  have hle := refLen_le (bs.drop i)
  rw [List.length_drop] at hle
  have hij : i < j := by omega
  have hjl : j ≤ bs.length := by omega
  have hc' : ∀ o o', ((w.alloc o).alloc o').cell? (ad.add i) = some (.int .u8 (x.toNat : Int)) := fun o o' => by
    have hlt := World.block_lt_of_cell? w _ hc
    rw [World.cell?_alloc_lt _ o' _ (by simp; omega), World.cell?_alloc_lt w o _ hlt]
    exact hc
  have hcv : ∀ s, s = (bs.drop i).take (j - i) → ∀ o o', (convert 22 9 (.slice (some (ad.add i)) (j - i) (c - i))).run Tryz.prog ((w.alloc o).alloc o') = .ok (str s) ((w.alloc o).alloc o') := fun s hs o o' => by
    rw [hs]
    exact run_conv (((hb.alloc o).alloc o').sub i (j - i)) (by simp; omega) Tryz.underlying22 Tryz.underlying5 Tryz.underlying9
  clear hc
  have hjn : j - i = refLen (bs.drop i) := by omega
  have hj' := hide hj; have h0' := hide h0; have hd' := hide hd; have hjn' := hide hjn
  clear hj h0 hd hjn hle
  cases h1 : isSmall x
  · rcases (show isDig x = true ∨ (isDig x = false ∧ ((x.toNat : Int) == 126) = true) ∨ (isDig x = false ∧ ((x.toNat : Int) == 126) = false ∧ ((x.toNat : Int) == 34) = true) ∨ (isDig x = false ∧ ((x.toNat : Int) == 126) = false ∧ ((x.toNat : Int) == 34) = false) from by
      cases isDig x <;> cases ((x.toNat : Int) == 126) <;> cases ((x.toNat : Int) == 34) <;> simp) with h2 | ⟨h2, h3⟩ | ⟨h2, h3, h4⟩ | ⟨h2, h3, h4⟩
    · obtain ⟨s, hs, hsl, htok⟩ := tok_num (r := bs.drop (i + 1)) h1 (.inl h2)
      rw [← hd'.out, ← hjn'.out] at hs hsl
      rw [← hd'.out] at htok
      have hcv' := hcv s hs
      have htok' := hide htok; have hs' := hide hs; have hsl' := hide hsl
      have hsz : s.length ≤ 1000000 := by omega
      clear hcv htok hs hsl
      cases hpn : mParseNum s with
      | none =>
        have hpn' := hide hpn; clear hpn
        go_enter Tryz.func32, Tryz.ntmps32
        go_wp2_with (first | (go_at_call 60; with_reducible refine (refLower_any x _).mono ?_; rintro e w' ⟨rfl, rfl⟩) | (go_at_call 62; with_reducible refine (refDigit_any x _).mono ?_; rintro e w' ⟨rfl, rfl⟩) | (go_at_call 65; with_reducible refine (refParseNum_any s _ (by omega)).mono ?_; rintro e w' ⟨rfl, rfl⟩; rw [(numVE_none hpn'.out).1, (numVE_none hpn'.out).2]))
        exact bodyPost_ret (v := .tuple #[tokV 3 i j [] 0, .bool false]) (by simp [results, Tryz.results32, go_sem]) rfl ⟨LexRes.mk_none (by rw [htok'.out, mNumber, hpn'.out]) _ _ _ _ _ _, by go_grown⟩
      | some n =>
        have hpn' := hide hpn; clear hpn
        go_enter Tryz.func32, Tryz.ntmps32
        go_wp2_with (first | (go_at_call 60; with_reducible refine (refLower_any x _).mono ?_; rintro e w' ⟨rfl, rfl⟩) | (go_at_call 62; with_reducible refine (refDigit_any x _).mono ?_; rintro e w' ⟨rfl, rfl⟩) | (go_at_call 65; with_reducible refine (refParseNum_any s _ (by omega)).mono ?_; rintro e w' ⟨rfl, rfl⟩; rw [(numVE_some hpn'.out).1, (numVE_some hpn'.out).2]))
        obtain rfl : j = i + s.length := by have := hsl'.out; omega
        exact bodyPost_ret (v := .tuple #[tokV 3 i (i + s.length : Nat) [] n, .bool true]) (by simp [results, Tryz.results32, go_sem]) rfl ⟨LexRes.mk_some (t := ⟨3, [], n⟩) (len := s.length) (by rw [htok'.out, mNumber, hpn'.out]) _, by go_grown⟩
    · obtain ⟨s, hs, hsl, htok⟩ := tok_num (r := bs.drop (i + 1)) h1 (.inr (by rw [beq_iff_eq] at h3; omega))
      rw [← hd'.out, ← hjn'.out] at hs hsl
      rw [← hd'.out] at htok
      have hcv' := hcv s hs
      have htok' := hide htok; have hs' := hide hs; have hsl' := hide hsl
      have hsz : s.length ≤ 1000000 := by omega
      clear hcv htok hs hsl
      cases hpn : mParseNum s with
      | none =>
        have hpn' := hide hpn; clear hpn
        go_enter Tryz.func32, Tryz.ntmps32
        go_wp2_with (first | (go_at_call 60; with_reducible refine (refLower_any x _).mono ?_; rintro e w' ⟨rfl, rfl⟩) | (go_at_call 62; with_reducible refine (refDigit_any x _).mono ?_; rintro e w' ⟨rfl, rfl⟩) | (go_at_call 65; with_reducible refine (refParseNum_any s _ (by omega)).mono ?_; rintro e w' ⟨rfl, rfl⟩; rw [(numVE_none hpn'.out).1, (numVE_none hpn'.out).2]))
        exact bodyPost_ret (v := .tuple #[tokV 3 i j [] 0, .bool false]) (by simp [results, Tryz.results32, go_sem]) rfl ⟨LexRes.mk_none (by rw [htok'.out, mNumber, hpn'.out]) _ _ _ _ _ _, by go_grown⟩
      | some n =>
        have hpn' := hide hpn; clear hpn
        go_enter Tryz.func32, Tryz.ntmps32
        go_wp2_with (first | (go_at_call 60; with_reducible refine (refLower_any x _).mono ?_; rintro e w' ⟨rfl, rfl⟩) | (go_at_call 62; with_reducible refine (refDigit_any x _).mono ?_; rintro e w' ⟨rfl, rfl⟩) | (go_at_call 65; with_reducible refine (refParseNum_any s _ (by omega)).mono ?_; rintro e w' ⟨rfl, rfl⟩; rw [(numVE_some hpn'.out).1, (numVE_some hpn'.out).2]))
        obtain rfl : j = i + s.length := by have := hsl'.out; omega
        exact bodyPost_ret (v := .tuple #[tokV 3 i (i + s.length : Nat) [] n, .bool true]) (by simp [results, Tryz.results32, go_sem]) rfl ⟨LexRes.mk_some (t := ⟨3, [], n⟩) (len := s.length) (by rw [htok'.out, mNumber, hpn'.out]) _, by go_grown⟩
    · have hx34 : x = 34 := UInt8.toNat_inj.1 (by rw [beq_iff_eq] at h4; show x.toNat = 34; omega)
      have h0t := h0'.out
      rw [hd'.out, hx34] at h0t
      obtain ⟨s, hs, hsl, htok⟩ := tok_text h0t
      rw [← hx34] at hs hsl htok
      clear hx34 h0t
      rw [← hd'.out, ← hjn'.out] at hs hsl
      rw [← hd'.out] at htok
      have hcv' := hcv s hs
      have htok' := hide htok; have hs' := hide hs; have hsl' := hide hsl
      have hsz : s.length ≤ 1000000 := by omega
      clear hcv htok hs hsl
      cases hpn : mUnquote s with
      | none =>
        have hpn' := hide hpn; clear hpn
        go_enter Tryz.func32, Tryz.ntmps32
        go_wp2_with (first | (go_at_call 60; with_reducible refine (refLower_any x _).mono ?_; rintro e w' ⟨rfl, rfl⟩) | (go_at_call 62; with_reducible refine (refDigit_any x _).mono ?_; rintro e w' ⟨rfl, rfl⟩) | (go_at_call 66; with_reducible refine (refUnquote_any s _ (by omega)).mono ?_; rintro e w1 ⟨rfl, hbl⟩; rw [(unqVE_none hpn'.out).1, (unqVE_none hpn'.out).2]; obtain ⟨z1, z2, z3, z4, z5, z6⟩ := kept_cells2 hbl; clear hbl))
        refine bodyPost_ret (v := .tuple #[tokV 4 i j [] 0, .bool false]) (by simp [results, Tryz.results32, go_sem, z1]) rfl ⟨LexRes.mk_none (by rw [htok'.out, hpn'.out]) _ _ _ _ _ _, by go_grown⟩
      | some n =>
        have hpn' := hide hpn; clear hpn
        go_enter Tryz.func32, Tryz.ntmps32
        go_wp2_with (first | (go_at_call 60; with_reducible refine (refLower_any x _).mono ?_; rintro e w' ⟨rfl, rfl⟩) | (go_at_call 62; with_reducible refine (refDigit_any x _).mono ?_; rintro e w' ⟨rfl, rfl⟩) | (go_at_call 66; with_reducible refine (refUnquote_any s _ (by omega)).mono ?_; rintro e w1 ⟨rfl, hbl⟩; rw [(unqVE_some hpn'.out).1, (unqVE_some hpn'.out).2]; obtain ⟨z1, z2, z3, z4, z5, z6⟩ := kept_cells2 hbl; clear hbl))
        obtain rfl : j = i + s.length := by have := hsl'.out; omega
        refine bodyPost_ret (v := .tuple #[tokV 4 i (i + s.length : Nat) n 0, .bool true]) (by simp [results, Tryz.results32, go_sem, z1]) rfl ⟨LexRes.mk_some (t := ⟨4, n, 0⟩) (len := s.length) (by rw [htok'.out, hpn'.out]) _, by go_grown⟩
    · have h0t := h0'.out
      rw [hd'.out] at h0t
      obtain ⟨s, hs, hsl, htok⟩ := tok_sign h1 h2 (by rw [beq_eq_false_iff_ne] at h3; omega) (by rw [beq_eq_false_iff_ne] at h4; omega) h0t
      clear h0t
      rw [← hd'.out, ← hjn'.out] at hs hsl
      rw [← hd'.out] at htok
      have hcv' := hcv s hs
      have htok' := hide htok; have hs' := hide hs; have hsl' := hide hsl
      have hsz : s.length ≤ 1000000 := by omega
      clear hcv htok hs hsl
      go_enter Tryz.func32, Tryz.ntmps32
      go_wp2_with (first | (go_at_call 60; with_reducible refine (refLower_any x _).mono ?_; rintro e w' ⟨rfl, rfl⟩) | (go_at_call 62; with_reducible refine (refDigit_any x _).mono ?_; rintro e w' ⟨rfl, rfl⟩))
      obtain rfl : j = i + s.length := by have := hsl'.out; omega
      exact bodyPost_ret (v := .tuple #[tokV 5 i (i + s.length : Nat) s 0, .bool true]) (by simp [results, Tryz.results32, go_sem]) rfl ⟨LexRes.mk_some (t := ⟨5, s, 0⟩) (len := s.length) htok'.out _, by go_grown⟩
  · obtain ⟨s, hs, hsl, htok⟩ := tok_small (r := bs.drop (i + 1)) h1
    rw [← hd'.out, ← hjn'.out] at hs hsl
    rw [← hd'.out] at htok
    have hcv' := hcv s hs
    have htok' := hide htok; have hs' := hide hs; have hsl' := hide hsl
    have hsz : s.length ≤ 1000000 := by omega
    clear hcv htok hs hsl
    cases hkey : mKey s
    · have hkey' := hide hkey; clear hkey
      have hcall := fun W => still_left (refName_any s W (by omega))
      go_enter Tryz.func32, Tryz.ntmps32
      go_wp2_with (first | (go_at_call 60; with_reducible refine (refLower_any x _).mono ?_; rintro e w' ⟨rfl, rfl⟩) | (go_at_call 63; with_reducible refine (refKey_any s _ (by omega)).mono ?_; rintro e w' ⟨rfl, rfl⟩; rw [hkey'.out]))
      refine wp_region_still_tail 3 (by kernel_rfl) (by kernel_rfl) ?_
      simp only [List.take_succ_cons, List.take_zero, List.drop_succ_cons, List.drop_zero]
      change wpStill _ _ (World.drew _) _ _ _
      repeat still_step
      still_call (hcall _)
      refine wpStill_nil ?_
      change wpList _ _ _ _ _ (World.drew _)
      go_wp2_with fail
      obtain rfl : j = i + s.length := by have := hsl'.out; omega
      exact bodyPost_ret (v := .tuple #[tokV 1 i (i + s.length : Nat) s 0, .bool (mName s)]) (by simp [results, Tryz.results32, go_sem]) rfl ⟨LexRes.mk_if (t := ⟨1, s, 0⟩) (by rw [htok'.out, mWord, hkey'.out]; rfl) _, by go_grown⟩
    · have hkey' := hide hkey; clear hkey
      go_enter Tryz.func32, Tryz.ntmps32
      go_wp2_with (first | (go_at_call 60; with_reducible refine (refLower_any x _).mono ?_; rintro e w' ⟨rfl, rfl⟩) | (go_at_call 63; with_reducible refine (refKey_any s _ (by omega)).mono ?_; rintro e w' ⟨rfl, rfl⟩; rw [hkey'.out]))
      obtain rfl : j = i + s.length := by have := hsl'.out; omega
      exact bodyPost_ret (v := .tuple #[tokV 2 i (i + s.length : Nat) s 0, .bool true]) (by simp [results, Tryz.results32, go_sem]) rfl ⟨LexRes.mk_some (t := ⟨2, s, 0⟩) (by rw [htok'.out]; exact mWord_key hkey'.out) _, by go_grown⟩

end Go.Proofs.YtkipkplpmeholaaGreat

/- Walks: the reference's scanner; two rows of tokens held against each other. -/
namespace Go.Proofs.YtkipkplpmeholaaGreat
open Go Go.RowKit Go.BigFrame

set_option maxHeartbeats 2000000
set_option maxRecDepth 100000

theorem newsG_at {α : Type} (f : α → List Value) (w : World) (g : Nat) (hg : g = w.heap.size) (xs : List α) (t : TypeId) : ∀ j u, (xs.flatMap f)[j]? = some u → (w.alloc (.cells (xs.flatMap f).toArray t)).cell? ((⟨g, 0, none⟩ : Addr).add j) = some u := by
  subst hg
  exact newsG w xs t

theorem tok_refLen {l : List UInt8} {t : BTok} {n : Nat} (hm : mTok l = some (t, n)) (h0 : refLen l ≠ 0) : n = refLen l := by
  match l with
  | [] => simp [mTok] at hm
  | x :: r =>
    cases h : isSmall x
    · by_cases h2 : isDig x = true ∨ x.toNat = 126
      · obtain ⟨s, _, hsl, htok⟩ := tok_num (r := r) h h2
        rw [htok] at hm
        rw [← hsl]
        exact mNumber_len hm
      · have h3 : isDig x = false := by
          cases hd : isDig x
          · rfl
          · exact absurd (.inl hd) h2
        have h3' : x.toNat ≠ 126 := fun e => h2 (.inr e)
        by_cases h4 : x.toNat = 34
        · have : x = 34 := UInt8.toNat_inj.1 h4
          subst this
          obtain ⟨s, _, hsl, htok⟩ := tok_text h0
          rw [htok] at hm
          rw [← hsl]
          split at hm
          · cases hm; rfl
          · cases hm
        · obtain ⟨s, _, hsl, htok⟩ := tok_sign h h3 h3' h4 h0
          rw [htok] at hm
          rw [← hsl]
          cases hm
          rfl
    · obtain ⟨s, _, hsl, htok⟩ := tok_small (r := r) h
      rw [htok] at hm
      rw [← hsl]
      exact mWord_len hm

theorem refScan_any (A : Option Addr) (c : Nat) (bs : List UInt8) (w : World) (hb : RdB w A bs) (hcap : bs.length ≤ c) (hmax : bs.length ≤ 140737488351232) :
    Calls Tryz.prog 10 #[.slice A bs.length c] w fun e w' => ScanRes (mScan bs) w.heap.size e w' ∧ Below w.heap.size w w' := by
  by_cases hbig : 16384 < bs.length
  · have hm : mScan bs = .error 16384 := by rw [mScan, if_pos hbig]
    have hm' := hide hm; clear hm
    have hbig' : (16384 : Int) < bs.length := by omega
    go_enter Tryz.func10, Tryz.ntmps10
    go_wp2_with fail
    go_ret3
    rw [hm'.out]
    exact ⟨rfl, Below.refl _ _⟩
  · have hm : mScan bs = mScanR 0 bs := by rw [mScan, if_neg hbig]
    have hm' := hide hm; clear hm
    have hbig' : (bs.length : Int) ≤ 16384 := by omega
    have h0 := refSkip_any A c 0 bs w hb (by omega) (by omega)
    rw [show ((0 : Nat) : Int) = 0 from rfl] at h0
    have h0' := hide h0; clear h0
    go_enter Tryz.func10, Tryz.ntmps10
    go_wp2_with (go_at_call 30; refine (Calls.mono h0'.out ?_); rintro e w' ⟨rfl, rfl⟩)
    go_loopw [5, 6] (fun l i wr => ∃ (k : Nat) (ts : List Tok) (A' : Option Addr) (c' : Nat), k ≤ bs.length ∧ i = .int .i64 k ∧ mSkip false (bs.drop k) = bs.drop k ∧ ts.length ≤ k ∧ l = .slice A' ts.length c' ∧ OwnT wr w.heap.size A' c' ts ∧ mScanR 0 bs = pre ts (mScanR k (bs.drop k)) ∧ Below w.heap.size w wr) (fun _ i _ => bs.length - (intOf i).toNat)
    case atStart =>
      refine ⟨_, [], none, 0, by omega, rfl, ?_, by simp, rfl, OwnG.nil _ _, ?_, Below.refl _ _⟩
      · have h := mSkip_drop false bs
        rw [h, mSkip_idem]
      · rw [pre_nil]
        exact mScanR_skip bs 0 (by omega)
    case round =>
      obtain ⟨k, ts, A', c', hk, rfl, hsk, htk, rfl, hown, he, hbl⟩ := hrel
      have he' := hide he; have hsk' := hide hsk; clear he hsk
      have hsz := hbl.size
      have hrd : RdB wr A bs := hb.below hbl
      by_cases hlt : k < bs.length
      · obtain ⟨ad, x, rfl, hc, hd⟩ := hrd.at hlt
        have hne0 : bs.drop k ≠ [] := by rw [hd]; simp
        have hend : mTok (bs.drop k) = none → mScanR 0 bs = .error k := fun hmt => by
          rw [he'.out, mScanR_none _ _ (by rw [hsk'.out]; exact hne0) (by rw [hsk'.out]; exact hmt), hsk'.out, Nat.sub_self]
          rfl
        have hend' := hide hend; clear hend
        have hE := refEnd_any (some ad) c k bs wr hrd hlt hcap (by omega)
        by_cases h0 : refLen (bs.drop k) = 0
        · have hfin := hend'.out (by rw [hd]; rw [hd] at h0; exact tok_none h0)
          have hfin' := hide hfin; clear hfin
          rw [h0, endV, if_pos rfl] at hE
          have hE' := hide hE; clear hE hd
          go_wp2_with (go_at_call 31; refine (Calls.mono hE'.out ?_); rintro e w' ⟨rfl, rfl⟩)
          go_ret3
          refine ⟨?_, hbl⟩
          rw [hm'.out, hfin'.out]
          rfl
        · obtain ⟨j, hj⟩ : ∃ j, j = k + refLen (bs.drop k) := ⟨_, rfl⟩
          have hle := refLen_le (bs.drop k)
          rw [List.length_drop] at hle
          have hkj : k < j := by omega
          have hjl : j ≤ bs.length := by omega
          have hT := refToken_any (some ad) c k j bs wr hrd hlt hcap (by omega) h0 hj
          rw [endV, if_neg h0, ← hj] at hE
          have hE' := hide hE; have hT' := hide hT; have hj' := hide hj; have h0' := hide h0; clear hE hT hj hd hc hle h0
          have hj0 : ((j : Int) == 0) = false := by rw [beq_eq_false_iff_ne]; omega
          cases hmt : mTok (bs.drop k) with
          | none =>
            have hfin' := hide (hend'.out hmt)
            have hmt' := hide hmt; clear hmt
            go_wp2_with (first | (go_at_call 31; refine (Calls.mono hE'.out ?_); rintro e w' ⟨rfl, rfl⟩) | (go_at_call 32; refine (Calls.mono hT'.out ?_); rintro e w1 ⟨⟨kk, a, b, s, n, rfl, hres⟩, hbl1⟩; rw [hmt'.out]; clear hres))
            go_ret3
            have hsz1 := hbl1.size
            refine ⟨?_, (hbl.trans (hbl1.mono hsz)).alloc (by omega) _⟩
            rw [hm'.out, hfin'.out]
            rfl
          | some p =>
            obtain ⟨t, len⟩ := p
            obtain ⟨hn1, hn2⟩ := mTok_len hmt
            rw [List.length_drop] at hn2
            have hstep : mScanR 0 bs = pre (ts ++ [t.at k (k + len)]) (mScanR (k + len) (bs.drop (k + len))) := by
              rw [he'.out, mScanR_some _ _ (by rw [hsk'.out]; exact hne0) (by rw [hsk'.out]; exact hmt), hsk'.out, Nat.sub_self, Nat.add_zero, pre_pre, List.drop_drop]
            have hjlen : j = k + len := by rw [hj'.out, ← tok_refLen hmt h0'.out]
            subst hjlen
            have hstep' := hide hstep; clear hstep
            have hmt' := hide hmt; clear hmt
            go_wp2_with (first | (go_at_call 31; refine (Calls.mono hE'.out ?_); rintro e w' ⟨rfl, rfl⟩) | (go_at_call 32; refine (Calls.mono hT'.out ?_); rintro e w1 ⟨⟨kk, a, b, s, n, rfl, hres⟩, hbl1⟩; obtain ⟨rfl, rfl, rfl, rfl, rfl⟩ := hres t len hmt'.out; rw [hmt'.out]; clear hres; have hownc : OwnT w1 w.heap.size A' c' ts := hown.keep hbl1; have hsz1 := hbl1.size) | (at_builtin; refine wpList_appG rowTok rfl (.tmp 35) (.tmp 37) rfl w.heap.size A' c' ts rfl ((hownc.alloc _).alloc _) ⟨w1.heap.size + 1, 0, none⟩ 1 1 [t.at k (k + len)] rfl rfl (newsG_at tokC _ _ (by simp) [t.at k (k + len)] _) (by omega) (by omega) (by simp; omega) ?_; intro A2 c3' w2 ts2 ht2 hown2 hB2 hg2; have ht2' := hide ht2; clear ht2))
            have hbw2 : Below w.heap.size w w2 := (((hbl.trans (hbl1.mono hsz)).alloc (by omega) _).alloc (by simp; omega) _).trans hB2
            have hrd2 : RdB w2 (some ad) bs := hb.below hbw2
            have hs := refSkip_any (some ad) c (k + len) bs w2 hrd2 (by omega) (by omega)
            rw [Int.natCast_add] at hs
            have hs' := hide hs; clear hs
            go_wp2_with (go_at_call 30; refine (Calls.mono hs'.out ?_); rintro e w' ⟨rfl, rfl⟩)
            go_roundw
            case rel =>
              have hle := mSkip_le false (bs.drop (k + len))
              rw [List.length_drop] at hle
              refine ⟨_, ts2, A2, c3', by omega, rfl, ?_, ?_, rfl, hown2, ?_, hbw2⟩
              · rw [skip_drop bs (k + len) (by omega), mSkip_idem]
              · rw [ht2'.out, List.length_append, List.length_singleton]; omega
              · rw [hstep'.out, ht2'.out, ← mScanR_skip bs (k + len) (by omega)]
            case measure =>
              have hle := mSkip_le false (bs.drop (k + len))
              rw [List.length_drop] at hle
              simp [intOf]; omega
      · have hkl : k = bs.length := by omega
        have hlt' : (bs.length : Int) ≤ k := by omega
        have hkl' := hide hkl; clear hkl
        go_wp2_with fail
        go_ret3
        refine ⟨?_, hbl⟩
        rw [hm'.out, he'.out, mScanR_nil _ _ (by rw [List.drop_eq_nil_of_le (by omega)]; rfl)]
        simp only [pre, List.append_nil]
        exact ⟨A', c', rfl, hown⟩

theorem RdG.at_ {α : Type} {sz : Nat} {f : α → List Value} {w : World} {A : Option Addr} {xs : List α} (h : RdG sz f w A xs) {k : Nat} (hk : k < xs.length) :
    ∃ ad p x, A = some ad ∧ ad.add (k * sz) = p ∧ xs[k]? = some x ∧ xs.drop k = x :: xs.drop (k + 1) ∧ (∀ j, j < sz → w.cell? (p.add j) = (f x)[j]?) := by
  obtain ⟨ad, hA, _, hc⟩ := h k hk
  exact ⟨ad, _, xs[k], hA, rfl, List.getElem?_eq_getElem hk, List.drop_eq_getElem_cons hk, fun j hj => by rw [add_of_add]; exact hc j hj⟩
def tokEq (x y : Tok) : Bool := decide (x = y)
theorem eqTok (x y : Tok) (w : World) : (Op.equalIn 10000 47 (.agg #[.int .i64 x.k, .int .i64 x.a, .int .i64 x.b, str x.s, .int .i64 x.n]) (.agg #[.int .i64 y.k, .int .i64 y.a, .int .i64 y.b, str y.s, .int .i64 y.n])).run Tryz.prog w = .ok (tokEq x y) w := by
  have hS : Tryz.prog.underlying 47 = some (.struct (Tryz.prog.fieldsOf 47)) := by kernel_rfl
  have hp : Tryz.prog.stoodInHeld 47 = false := by kernel_rfl
  rw [show (10000 : Nat) = 9999 + 1 from rfl, run_equalIn_agg w 9999 47 _ _ hS hp]
  simp only [Program.fieldsOf, Tryz.underlying47]
  go_simp
  obtain ⟨k, a, b, s, n⟩ := x
  obtain ⟨k', a', b', s', n'⟩ := y
  unfold tokEq
  dsimp only
  simp only [Tok.mk.injEq, Int.natCast_inj]
  by_cases h1 : k = k' <;> by_cases h2 : a = a' <;> by_cases h3 : b = b' <;> by_cases h4 : s = s' <;> by_cases h5 : n = n' <;> simp [h1, h2, h3, h4, h5]
attribute [go_sem high] eqTok

end Go.Proofs.YtkipkplpmeholaaGreat

