/- Plain laws of scanning: the fuel does not matter; one token at a time. -/
import Derived.Test.YtoadmjnaakbljaaDoorLexM
namespace Go.Proofs.YtoadmjnaakbljaaDoor

theorem mSkip_le : ∀ (m : Bool) (l : List UInt8), (mSkip m l).length ≤ l.length
  | _, [] => by simp [mSkip]
  | true, c :: r => by
    rw [mSkip]
    split
    · exact Nat.le_succ_of_le (mSkip_le false r)
    · exact Nat.le_succ_of_le (mSkip_le true r)
  | false, c :: r => by
    rw [mSkip]
    split
    · exact Nat.le_succ_of_le (mSkip_le false r)
    · split
      · exact Nat.le_succ_of_le (mSkip_le true r)
      · exact Nat.le_refl _
theorem mSkip_suffix : ∀ (m : Bool) (l : List UInt8), ∃ p, l = p ++ mSkip m l
  | _, [] => ⟨[], by simp [mSkip]⟩
  | true, c :: r => by
    rw [mSkip]
    split
    · obtain ⟨p, h⟩ := mSkip_suffix false r
      exact ⟨c :: p, by rw [List.cons_append, ← h]⟩
    · obtain ⟨p, h⟩ := mSkip_suffix true r
      exact ⟨c :: p, by rw [List.cons_append, ← h]⟩
  | false, c :: r => by
    rw [mSkip]
    split
    · obtain ⟨p, h⟩ := mSkip_suffix false r
      exact ⟨c :: p, by rw [List.cons_append, ← h]⟩
    · split
      · obtain ⟨p, h⟩ := mSkip_suffix true r
        exact ⟨c :: p, by rw [List.cons_append, ← h]⟩
      · exact ⟨[], rfl⟩
theorem mSkip_idem : ∀ (m : Bool) (l : List UInt8), mSkip false (mSkip m l) = mSkip m l
  | _, [] => by simp [mSkip]
  | true, c :: r => by
    rw [mSkip]
    split
    · exact mSkip_idem false r
    · exact mSkip_idem true r
  | false, c :: r => by
    rw [mSkip]
    split
    · exact mSkip_idem false r
    · split
      · exact mSkip_idem true r
      · rw [mSkip]
        simp_all
theorem mSkip_drop (m : Bool) (l : List UInt8) : l.drop (l.length - (mSkip m l).length) = mSkip m l := by
  obtain ⟨p, h⟩ := mSkip_suffix m l
  generalize mSkip m l = s at h
  subst h
  simp

theorem mWord_len {s : List UInt8} {t : BTok} {n : Nat} (h : mWord s = some (t, n)) : n = s.length := by
  unfold mWord at h
  split at h
  · cases h; rfl
  · split at h
    · cases h; rfl
    · cases h
theorem mNumber_len {s : List UInt8} {t : BTok} {n : Nat} (h : mNumber s = some (t, n)) : n = s.length := by
  unfold mNumber at h
  split at h
  · cases h; rfl
  · cases h
theorem takeWhile_le {α : Type} (p : α → Bool) (l : List α) : (l.takeWhile p).length ≤ l.length := (List.takeWhile_prefix p).length_le
theorem signLen_le (l : List UInt8) : signLen l ≤ l.length := by
  match l with
  | [] => simp [signLen]
  | [c] => simp only [signLen]; split <;> simp_all; split <;> simp
  | c :: d :: r => simp only [signLen]; split <;> simp; split <;> omega
/-- a token has a length, and does not go beyond the end -/
theorem mTok_len {l : List UInt8} {t : BTok} {n : Nat} (h : mTok l = some (t, n)) : 1 ≤ n ∧ n ≤ l.length := by
  match l with
  | [] => simp [mTok] at h
  | c :: r =>
    rw [mTok] at h
    split at h
    · have e := mWord_len h
      have := takeWhile_le isPart r
      simp only [List.length_cons] at e ⊢
      omega
    · split at h
      · have e := mNumber_len h
        have := takeWhile_le isDig r
        simp only [List.length_cons] at e ⊢
        omega
      · split at h
        · unfold mText at h
          split at h
          · rename_i hlt
            split at h
            · cases h
              simp only [List.length_cons]
              omega
            · cases h
          · cases h
        · unfold mSign at h
          split at h
          · cases h
          · cases h
            have := signLen_le (c :: r)
            omega

/-- the fuel does not matter, where it is enough -/
theorem mScanF_fuel : ∀ (f g : Nat) (off : Nat) (l : List UInt8), l.length < f → l.length < g → mScanF f off l = mScanF g off l
  | 0, _, _, _, h, _ => by omega
  | _ + 1, 0, _, _, _, h => by omega
  | f + 1, g + 1, off, l, hf, hg => by
    rw [mScanF, mScanF]
    by_cases hs : mSkip false l = []
    · rw [if_pos hs, if_pos hs]
    · rw [if_neg hs, if_neg hs]
      cases hm : mTok (mSkip false l) with
      | none => rfl
      | some p =>
        obtain ⟨t, n⟩ := p
        have hn := mTok_len hm
        have hle := mSkip_le false l
        have e := mScanF_fuel f g (off + (l.length - (mSkip false l).length) + n) ((mSkip false l).drop n) (by rw [List.length_drop]; omega) (by rw [List.length_drop]; omega)
        simp only [e]

def pre (ts : List Tok) : Except Nat (List Tok) → Except Nat (List Tok)
  | .ok us => .ok (ts ++ us)
  | .error e => .error e
theorem pre_nil (r : Except Nat (List Tok)) : pre [] r = r := by cases r <;> rfl
theorem pre_pre (a b : List Tok) (r : Except Nat (List Tok)) : pre a (pre b r) = pre (a ++ b) r := by cases r <;> simp [pre]

theorem mScanR_nil (off : Nat) (l : List UInt8) (h : mSkip false l = []) : mScanR off l = .ok [] := by
  rw [mScanR, mScanF, if_pos h]
theorem mScanR_none (off : Nat) (l : List UInt8) (h : mSkip false l ≠ []) (hm : mTok (mSkip false l) = none) : mScanR off l = .error (off + (l.length - (mSkip false l).length)) := by
  rw [mScanR, mScanF, if_neg h]
  simp only [hm]
theorem mScanR_some (off : Nat) (l : List UInt8) (h : mSkip false l ≠ []) {t : BTok} {n : Nat} (hm : mTok (mSkip false l) = some (t, n)) :
    mScanR off l = pre [t.at (off + (l.length - (mSkip false l).length)) (off + (l.length - (mSkip false l).length) + n)] (mScanR (off + (l.length - (mSkip false l).length) + n) ((mSkip false l).drop n)) := by
  have hn := mTok_len hm
  have hle := mSkip_le false l
  rw [mScanR, mScanF, if_neg h]
  simp only [hm]
  rw [mScanF_fuel l.length (((mSkip false l).drop n).length + 1) _ _ (by rw [List.length_drop]; omega) (by omega)]
  rw [← mScanR]
  cases mScanR (off + (l.length - (mSkip false l).length) + n) ((mSkip false l).drop n) <;> rfl

theorem skip_drop (bs : List UInt8) (i : Nat) (hi : i ≤ bs.length) : bs.drop (bs.length - (mSkip false (bs.drop i)).length) = mSkip false (bs.drop i) := by
  have hle := mSkip_le false (bs.drop i)
  rw [List.length_drop] at hle
  have h := mSkip_drop false (bs.drop i)
  rw [List.length_drop, List.drop_drop] at h
  rw [show bs.length - (mSkip false (bs.drop i)).length = i + (bs.length - i - (mSkip false (bs.drop i)).length) by omega]
  exact h

/-- scanning from a place on, blanks passed over already or not -/
theorem mScanR_skip (bs : List UInt8) (i : Nat) (hi : i ≤ bs.length) : mScanR i (bs.drop i) = mScanR (bs.length - (mSkip false (bs.drop i)).length) (bs.drop (bs.length - (mSkip false (bs.drop i)).length)) := by
  have hle := mSkip_le false (bs.drop i)
  rw [List.length_drop] at hle
  have hd : bs.drop (bs.length - (mSkip false (bs.drop i)).length) = mSkip false (bs.drop i) := by
    have h := mSkip_drop false (bs.drop i)
    rw [List.length_drop, List.drop_drop] at h
    rw [show bs.length - (mSkip false (bs.drop i)).length = i + (bs.length - i - (mSkip false (bs.drop i)).length) by omega]
    exact h
  rw [hd]
  generalize hs : mSkip false (bs.drop i) = s at *
  have hss : mSkip false s = s := by rw [← hs]; exact mSkip_idem false _
  have hoff : i + ((bs.drop i).length - s.length) = bs.length - s.length := by rw [List.length_drop]; omega
  by_cases h0 : s = []
  · rw [mScanR_nil _ _ (by rw [hs]; exact h0), mScanR_nil _ _ (by rw [hss]; exact h0)]
  · cases hm : mTok s with
    | none =>
      rw [mScanR_none _ _ (by rw [hs]; exact h0) (by rw [hs]; exact hm), mScanR_none _ _ (by rw [hss]; exact h0) (by rw [hss]; exact hm), hs, hss, hoff]
      simp
    | some p =>
      obtain ⟨t, n⟩ := p
      have e1 := mScanR_some i (bs.drop i) (by rw [hs]; exact h0) (t := t) (n := n) (by rw [hs]; exact hm)
      have e2 := mScanR_some (bs.length - s.length) s (by rw [hss]; exact h0) (t := t) (n := n) (by rw [hss]; exact hm)
      rw [hs, hoff] at e1
      rw [hss, Nat.sub_self, Nat.add_zero] at e2
      rw [e1, e2]

end Go.Proofs.YtoadmjnaakbljaaDoor
