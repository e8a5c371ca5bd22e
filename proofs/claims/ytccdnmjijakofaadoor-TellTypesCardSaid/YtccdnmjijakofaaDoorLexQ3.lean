/- Plain laws of scanning: a number's text, a text's text, a key word, a name are one token. -/
import Derived.Test.YtccdnmjijakofaaDoorLexQ2
import Derived.Test.YtccdnmjijakofaaDoorLY
namespace Go.Proofs.YtccdnmjijakofaaDoor

theorem skip_stay {c : UInt8} {r : List UInt8} (h1 : isBlank c = false) (h2 : c.toNat ≠ 35) : mSkip false (c :: r) = c :: r := by rw [mSkip, if_neg (by simp [h1]), if_neg h2]
theorem scan_single {l : List UInt8} {t : BTok} (hs : mSkip false l = l) (hm : mTok l = some (t, l.length)) (hl : l.length ≤ 16384) : mScan l = .ok [t.at 0 l.length] := by
  have h := mScan_one (m := false) (l := l) (t := t) (n := l.length) (by rw [hs]; exact hm) hl
  rwa [hs, List.take_length] at h
theorem scan_single1 {l : List UInt8} {t : BTok} (hs : mSkip false l = l) (hm : mTok l = some (t, l.length)) (hl : l.length ≤ 16000) : mScan (32 :: l) = .ok [t.at 1 (1 + l.length)] := by
  have hs1 : mSkip false (32 :: l) = l := by rw [mSkip, if_pos (by decide), hs]
  have hsk : skLen false (32 :: l) = 1 := by unfold skLen; rw [hs1, List.length_cons]; omega
  rw [mScan_small (by rw [List.length_cons]; omega)]
  have h1 := Scans.step 0 (32 :: l) t l.length [] none (by rw [hs1]; exact hm) (.done _ _ (by rw [hs1, List.drop_length]; simp [mSkip]))
  have h2 := scans_det h1
  rw [hsk, Nat.zero_add] at h2
  exact h2
theorem takeWhile_all {p : UInt8 → Bool} : ∀ {r : List UInt8}, r.all p = true → r.takeWhile p = r
  | [], _ => rfl
  | c :: r, h => by
    simp only [List.all_cons, Bool.and_eq_true] at h
    rw [List.takeWhile_cons, if_pos h.1, takeWhile_all h.2]

theorem scan_num {n : Int} (h1 : -9223372036854775808 ≤ n) (h2 : n ≤ 9223372036854775807) : mScan (mNum n) = .ok [⟨3, 0, (mNum n).length, [], n⟩] := by
  have hp := parse_num h1 h2
  have hu : n.natAbs < 10 ^ 19 := by rw [pow19]; omega
  have hl := mDigits_len hu
  have hd := mDigits_dig n.natAbs
  have hne := mDigits_ne n.natAbs
  have key : ∃ c r, mNum n = c :: r ∧ (isDig c = true ∨ c.toNat = 126) ∧ r.all isDig = true ∧ (mNum n).length ≤ 20 := by
    unfold mNum
    split
    · exact ⟨126, _, rfl, .inr rfl, hd, by simp; omega⟩
    · cases h : mDigits n.natAbs with
      | nil => exact absurd h hne
      | cons c r =>
        rw [h] at hd hl
        simp only [List.all_cons, Bool.and_eq_true] at hd
        exact ⟨c, r, rfl, .inl hd.1, hd.2, by omega⟩
  obtain ⟨c, r, e, hc, hr, hlen⟩ := key
  have hc2 : isSmall c = false ∧ isBlank c = false ∧ c.toNat ≠ 35 ∧ (isDig c || c.toNat == 126) = true := by
    rcases hc with hc | hc
    · have := (isDig_iff_ c).1 hc
      refine ⟨by simp [isSmall]; omega, by simp [isBlank]; omega, by omega, by simp [hc]⟩
    · refine ⟨by simp [isSmall, hc], by simp [isBlank, hc], by omega, by simp [hc]⟩
  have ht : mTok (mNum n) = some (⟨3, [], n⟩, (mNum n).length) := by
    rw [e, mTok, if_neg (by simp [hc2.1]), if_pos hc2.2.2.2, takeWhile_all hr, ← e, mNumber, hp]
  have := scan_single (by rw [e]; exact skip_stay hc2.2.1 hc2.2.2.1) ht (by omega)
  exact this

theorem mNum_len {n : Int} (h1 : -9223372036854775808 ≤ n) (h2 : n ≤ 9223372036854775807) : (mNum n).length ≤ 20 := by
  have hl := mDigits_len (u := n.natAbs) (by rw [pow19]; omega)
  unfold mNum
  split
  · simp; omega
  · omega
theorem esc_no34 (c : UInt8) : ∀ x ∈ esc c, x.toNat ≠ 34 := by
  have hx : ∀ n, n < 16 → (hexD n).toNat ≠ 34 := by decide
  intro x hx1
  unfold esc at hx1
  split at hx1
  · rename_i hp
    simp only [List.mem_singleton] at hx1
    subst hx1
    exact ((isPlain_iff' x).1 hp).2.2.1
  · have hc := c.toNat_lt
    simp only [List.mem_cons, List.not_mem_nil, or_false] at hx1
    rcases hx1 with rfl | rfl | rfl
    · decide
    · exact hx _ (by omega)
    · exact hx _ (by omega)
theorem takeWhile_quote (l : List UInt8) (h : ∀ x ∈ l, x.toNat ≠ 34) : (l ++ [34]).takeWhile (fun x => x.toNat != 34) = l := by
  induction l with
  | nil => decide
  | cons c r ih =>
    rw [List.cons_append, List.takeWhile_cons, if_pos (by simpa using h c (by simp)), ih (fun x hx => h x (by simp [hx]))]
theorem long_len (t : List UInt8) : (mLong t).length ≤ 3 * t.length + 2 := by
  have h : (t.flatMap esc).length ≤ 3 * t.length := by
    induction t with
    | nil => simp
    | cons c r ih =>
      have hc : (esc c).length ≤ 3 := by unfold esc; split <;> simp
      rw [List.flatMap_cons, List.length_append, List.length_cons]
      omega
  simp only [mLong, List.length_cons, List.length_append, List.length_nil]
  omega
theorem scan_quote {t : List UInt8} (h : t.length ≤ 200) : mScan (mLong t) = .ok [⟨4, 0, (mLong t).length, t, 0⟩] := by
  have hu := mUnquote_long t h
  have hl := long_len t
  have htw := takeWhile_quote (t.flatMap esc) (fun x hx => by
    obtain ⟨c, _, hc⟩ := List.mem_flatMap.1 hx
    exact esc_no34 c x hc)
  have ht : mTok (mLong t) = some (⟨4, t, 0⟩, (mLong t).length) := by
    have e : mLong t = 34 :: (t.flatMap esc ++ [34]) := rfl
    rw [e, mTok, if_neg (by decide), if_neg (by decide), if_pos (by decide), mText, htw, if_pos (by simp), ← e, hu]
    simp [mLong]
  exact scan_single (by rw [mLong]; exact skip_stay (by decide) (by decide)) ht (by omega)

theorem key_form : ∀ s ∈ kws, s.all isSmall = true ∧ s ≠ [] ∧ s.length ≤ 32 := by decide
theorem mKey_form {s : List UInt8} (h : mKey s = true) : s.all isSmall = true ∧ s ≠ [] ∧ s.length ≤ 32 := key_form s (by simpa [mKey] using h)
theorem part_of_small {c : UInt8} (h : isSmall c = true) : isPart c = true := by simp [isPart, h]
theorem all_part {r : List UInt8} (h : r.all isSmall = true) : r.all isPart = true := by
  rw [List.all_eq_true] at h ⊢
  exact fun x hx => part_of_small (h x hx)
theorem small_stay {c : UInt8} (h : isSmall c = true) : isBlank c = false ∧ c.toNat ≠ 35 := by
  simp only [isSmall, Bool.and_eq_true, decide_eq_true_eq] at h
  exact ⟨by simp [isBlank]; omega, by omega⟩
theorem scan_word {s : List UInt8} (h : mKey s = true ∨ mName s = true) : s.length ≤ 32 ∧ mScan (32 :: s) = .ok [⟨if mKey s then 2 else 1, 1, 1 + s.length, s, 0⟩] := by
  have key : ∃ c r, s = c :: r ∧ isSmall c = true ∧ r.all isPart = true ∧ s.length ≤ 32 := by
    rcases h with h | h
    · obtain ⟨h1, h2, h3⟩ := mKey_form h
      cases s with
      | nil => exact absurd rfl h2
      | cons c r =>
        simp only [List.all_cons, Bool.and_eq_true] at h1
        exact ⟨c, r, rfl, h1.1, all_part h1.2, h3⟩
    · cases s with
      | nil => cases h
      | cons c r =>
        simp only [mName, Bool.and_eq_true, decide_eq_true_eq] at h
        exact ⟨c, r, rfl, h.1.1.2, h.1.2, h.1.1.1⟩
  obtain ⟨c, r, rfl, hc, hr, hl⟩ := key
  refine ⟨hl, ?_⟩
  have hs := small_stay hc
  have hw : mTok (c :: r) = some (⟨if mKey (c :: r) then 2 else 1, c :: r, 0⟩, (c :: r).length) := by
    rw [mTok, if_pos hc, takeWhile_all hr, mWord]
    cases hk : mKey (c :: r)
    · rcases h with h | h
      · rw [hk] at h; cases h
      · rw [if_neg (by simp), if_pos h]; rfl
    · rw [if_pos rfl]; rfl
  exact scan_single1 (skip_stay hs.1 hs.2) hw (by omega)
theorem scan_space : mScan [32] = .ok [] := mScan_blank (by decide) (by simp [mSkip, isBlank])
theorem scan_nword {s : List UInt8} (h1 : mKey s = false) (h2 : mName s = false) (ha : s.all isSmall = true) (hne : s ≠ []) (hl : s.length ≤ 16000) : 32 < s.length ∧ mScan (32 :: s) = .error 1 := by
  cases s with
  | nil => exact absurd rfl hne
  | cons c r =>
    simp only [List.all_cons, Bool.and_eq_true] at ha
    have hlen : 32 < (c :: r).length := by
      rcases Nat.lt_or_ge 32 (c :: r).length with h | h
      · exact h
      · have : mName (c :: r) = true := by
          simp only [mName, Bool.and_eq_true, decide_eq_true_eq]
          exact ⟨⟨⟨h, ha.1⟩, all_part ha.2⟩, by rw [h1]; rfl⟩
        rw [this] at h2
        cases h2
    refine ⟨hlen, ?_⟩
    have hs := small_stay ha.1
    have hst : mSkip false (c :: r) = c :: r := skip_stay hs.1 hs.2
    have hs1 : mSkip false (32 :: c :: r) = c :: r := by rw [mSkip, if_pos (by decide), hst]
    have hm : mTok (c :: r) = none := by
      rw [mTok, if_pos ha.1, takeWhile_all (all_part ha.2), mWord, if_neg (by simp [h1]), if_neg (by simp [h2])]
    rw [mScan_small (by rw [List.length_cons]; omega), mScanR_none _ _ (by rw [hs1]; simp) (by rw [hs1]; exact hm), hs1]
    simp

end Go.Proofs.YtccdnmjijakofaaDoor
