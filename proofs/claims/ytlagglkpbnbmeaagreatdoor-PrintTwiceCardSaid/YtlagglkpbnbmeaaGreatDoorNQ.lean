/- Bundle of LexQ LexQ2 LexQ3. -/
import Derived.Test.YtlagglkpbnbmeaaGreatDoorLY

/- Plain laws of scanning: what a source's parts scan to. -/
namespace Go.Proofs.YtlagglkpbnbmeaaGreatDoor

theorem takeWhile_ext {p : UInt8 → Bool} {e : List UInt8} (he : ∀ c r, e = c :: r → p c = false) : ∀ (r : List UInt8) (m : Nat), (r.takeWhile p).length ≤ m → (r.take m ++ e).takeWhile p = r.takeWhile p
  | [], m, _ => by
    cases e with
    | nil => simp
    | cons c s => simp [he c s rfl]
  | c :: r, m, hm => by
    cases hp : p c
    · cases m with
      | zero =>
        cases e with
        | nil => simp [hp]
        | cons d s => simp [he d s rfl, hp]
      | succ m => simp [hp]
    · rw [List.takeWhile_cons, if_pos hp] at hm ⊢
      cases m with
      | zero => simp at hm
      | succ m =>
        rw [List.take_succ_cons, List.cons_append, List.takeWhile_cons, if_pos hp, takeWhile_ext he r m (by simpa using hm)]
theorem takeWhile_in {p : UInt8 → Bool} {e : List UInt8} : ∀ (r : List UInt8) (m : Nat), (r.takeWhile p).length < m → (r.takeWhile p).length < r.length → (r.take m ++ e).takeWhile p = r.takeWhile p
  | [], m, _, h => by simp at h
  | c :: r, m, hm, hl => by
    cases m with
    | zero => simp at hm
    | succ m =>
      rw [List.take_succ_cons, List.cons_append]
      cases hp : p c
      · simp [hp]
      · rw [List.takeWhile_cons, if_pos hp] at hm hl ⊢
        rw [List.takeWhile_cons, if_pos hp, takeWhile_in r m (by simpa using hm) (by simpa using hl)]

def Stop (e : List UInt8) : Prop := ∀ c r, e = c :: r → (isPart c = false ∧ isDig c = false ∧ ∀ d, twoSign d c = false)
theorem stop_nil : Stop [] := fun c r h => by cases h
theorem stop_cons {c : UInt8} {r : List UInt8} (h : isBlank c = true ∨ c = 35) : Stop (c :: r) := by
  intro d s e
  injection e with e _
  subst e
  have hc : c = 9 ∨ c = 10 ∨ c = 13 ∨ c = 32 ∨ c = 35 := by
    rcases h with h | h
    · simp only [isBlank, Bool.or_eq_true, beq_iff_eq] at h
      have e (n : UInt8) (h : c.toNat = n.toNat) : c = n := UInt8.toNat_inj.1 h
      rcases h with ((h | h) | h) | h
      · exact .inl (e 9 h)
      · exact .inr (.inl (e 10 h))
      · exact .inr (.inr (.inl (e 13 h)))
      · exact .inr (.inr (.inr (.inl (e 32 h))))
    · exact .inr (.inr (.inr (.inr h)))
  rcases hc with rfl | rfl | rfl | rfl | rfl
  all_goals exact ⟨by decide, by decide, fun d => by simp [twoSign]⟩

theorem mTok_ext {l : List UInt8} {t : BTok} {n : Nat} (h : mTok l = some (t, n)) {m : Nat} (hm : n ≤ m) {e : List UInt8} (he : Stop e) : mTok (l.take m ++ e) = some (t, n) := by
  have hn := mTok_len h
  match l with
  | [] => simp [mTok] at h
  | c :: r =>
    obtain ⟨m, rfl⟩ : ∃ k, m = k + 1 := ⟨m - 1, by omega⟩
    rw [List.take_succ_cons, List.cons_append]
    rw [mTok] at h ⊢
    split at h
    · have e1 := mWord_len h
      rw [if_pos ‹_›, takeWhile_ext (fun c r h => (he c r h).1) r m (by simp only [List.length_cons] at e1; omega)]
      exact h
    · rw [if_neg ‹_›]
      split at h
      · have e1 := mNumber_len h
        rw [if_pos ‹_›, takeWhile_ext (fun c r h => (he c r h).2.1) r m (by simp only [List.length_cons] at e1; omega)]
        exact h
      · rw [if_neg ‹_›]
        split at h
        · rw [if_pos ‹_›]
          unfold mText at h ⊢
          split at h
          · rename_i hlt
            have hn2 : n = (r.takeWhile (fun x => x.toNat != 34)).length + 2 := by
              split at h
              · cases h; rfl
              · cases h
            have e1 := takeWhile_in (p := fun x => x.toNat != 34) (e := e) r m (by omega) hlt
            rw [e1, if_pos (by simp only [List.length_append, List.length_take]; omega)]
            exact h
          · cases h
        · rw [if_neg ‹_›]
          unfold mSign at h ⊢
          have hs : signLen (c :: (r.take m ++ e)) = signLen (c :: r) ∧ signLen (c :: r) ≠ 0 ∧ n = signLen (c :: r) := by
            split at h
            · cases h
            · cases h
              refine ⟨?_, ‹_›, rfl⟩
              have hn1 : signLen (c :: r) ≤ m + 1 := hm
              cases r with
              | nil =>
                cases e with
                | nil => simp
                | cons d s => simp [signLen, (he d s rfl).2.2 c]
              | cons d r' =>
                cases m with
                | zero =>
                  have h2 : twoSign c d = false := by
                    cases h2 : twoSign c d
                    · rfl
                    · simp [signLen, h2] at hn1
                  cases e with
                  | nil => simp [signLen, h2]
                  | cons d s => simp [signLen, (he d s rfl).2.2 c, h2]
                | succ m => simp only [List.take_succ_cons, List.cons_append, signLen]; rfl
          obtain ⟨h1, h2, h3⟩ := hs
          rw [h1, if_neg h2]
          rw [if_neg h2] at h
          rw [← h3] at h ⊢
          have e2 : List.take n (c :: (r.take m ++ e)) = List.take n (c :: r) := by
            rw [← List.cons_append, ← List.take_succ_cons, List.take_append_of_le_length (by rw [List.length_take]; omega), List.take_take, Nat.min_eq_left hm]
          rw [e2]
          exact h
theorem mTok_app {l : List UInt8} {t : BTok} {n : Nat} (h : mTok l = some (t, n)) {e : List UInt8} (he : Stop e) : mTok (l ++ e) = some (t, n) := by
  have := mTok_ext h (Nat.le_trans (mTok_len h).2 (Nat.le_refl l.length)) he
  rwa [List.take_length] at this

def skLen (m : Bool) (l : List UInt8) : Nat := l.length - (mSkip m l).length
inductive Scans : Nat → List UInt8 → List Tok → Option Nat → Prop where
  | done (off : Nat) (l : List UInt8) : mSkip false l = [] → Scans off l [] none
  | bad (off : Nat) (l : List UInt8) : mSkip false l ≠ [] → mTok (mSkip false l) = none → Scans off l [] (some (off + skLen false l))
  | step (off : Nat) (l : List UInt8) (t : BTok) (n : Nat) (ts : List Tok) (e : Option Nat) : mTok (mSkip false l) = some (t, n) → Scans (off + skLen false l + n) ((mSkip false l).drop n) ts e →
      Scans off l (t.at (off + skLen false l) (off + skLen false l + n) :: ts) e

theorem tok_ne {l : List UInt8} {t : BTok} {n : Nat} (h : mTok l = some (t, n)) : l ≠ [] := by
  rintro rfl
  simp [mTok] at h
def outOf (ts : List Tok) : Option Nat → Except Nat (List Tok)
  | none => .ok ts
  | some p => .error p
theorem scans_ex : ∀ (k : Nat) (off : Nat) (l : List UInt8), l.length ≤ k → ∃ ts e, Scans off l ts e ∧ mScanR off l = outOf ts e
  | 0, off, l, hk => by
    have : l = [] := List.eq_nil_of_length_eq_zero (by omega)
    subst this
    exact ⟨[], none, .done _ _ (by simp [mSkip]), mScanR_nil _ _ (by simp [mSkip])⟩
  | k + 1, off, l, hk => by
    by_cases hs : mSkip false l = []
    · exact ⟨[], none, .done _ _ hs, mScanR_nil _ _ hs⟩
    · cases hm : mTok (mSkip false l) with
      | none => exact ⟨[], _, .bad _ _ hs hm, mScanR_none _ _ hs hm⟩
      | some p =>
        obtain ⟨t, n⟩ := p
        have hn := mTok_len hm
        have hle := mSkip_le false l
        obtain ⟨ts, e, h1, h2⟩ := scans_ex k (off + skLen false l + n) ((mSkip false l).drop n) (by rw [List.length_drop]; omega)
        refine ⟨_, e, .step _ _ _ _ _ _ hm h1, ?_⟩
        rw [mScanR_some _ _ hs hm]
        show pre _ (mScanR (off + skLen false l + n) _) = _
        rw [h2]
        cases e <;> rfl
theorem scans_det {off : Nat} {l : List UInt8} {ts : List Tok} {e : Option Nat} (h : Scans off l ts e) : mScanR off l = outOf ts e := by
  induction h with
  | done off l hs => exact mScanR_nil _ _ hs
  | bad off l hs hm => exact mScanR_none _ _ hs hm
  | step off l t n ts e hm _ ih =>
    rw [mScanR_some _ _ (tok_ne hm) hm]
    show pre _ (mScanR (off + skLen false l + n) _) = _
    rw [ih]
    cases e <;> rfl
theorem scans_of_ok {off : Nat} {l : List UInt8} {ts : List Tok} (h : mScanR off l = .ok ts) : Scans off l ts none := by
  obtain ⟨us, e, h1, h2⟩ := scans_ex l.length off l (Nat.le_refl _)
  rw [h] at h2
  cases e with
  | none => cases h2; exact h1
  | some p => cases h2
theorem scans_len {off : Nat} {l : List UInt8} {ts : List Tok} {e : Option Nat} (h : Scans off l ts e) : ts.length ≤ l.length := by
  induction h with
  | done => simp
  | bad => simp
  | step off l t n ts e hm _ ih =>
    have hn := mTok_len hm
    have hle := mSkip_le false l
    rw [List.length_drop] at ih
    simp only [List.length_cons]
    omega
theorem mScan_len {l : List UInt8} {ts : List Tok} (h : mScan l = .ok ts) : ts.length ≤ 16384 := by
  unfold mScan at h
  split at h
  · cases h
  · have := scans_len (scans_of_ok h)
    omega
theorem scans_at {off : Nat} {l : List UInt8} {ts : List Tok} {e : Option Nat} (h : Scans off l ts e) : (∀ t ∈ ts, off ≤ t.a ∧ t.a < t.b ∧ t.b ≤ off + l.length) ∧ ∀ p, e = some p → off ≤ p ∧ p < off + l.length := by
  induction h with
  | done => exact ⟨by simp, by simp⟩
  | bad off l hs hm =>
    refine ⟨by simp, fun p hp => ?_⟩
    cases hp
    have : 0 < (mSkip false l).length := List.length_pos_iff.2 hs
    have := mSkip_le false l
    unfold skLen
    omega
  | step off l t n ts e hm _ ih =>
    have hn := mTok_len hm
    have hle := mSkip_le false l
    rw [List.length_drop] at ih
    have hsk : skLen false l + (mSkip false l).length = l.length := by unfold skLen; omega
    refine ⟨?_, fun p hp => ?_⟩
    · intro u hu
      rcases List.mem_cons.1 hu with rfl | hu
      · simp only [BTok.at]; omega
      · have := ih.1 u hu
        omega
    · have := ih.2 p hp
      omega

end Go.Proofs.YtlagglkpbnbmeaaGreatDoor

/- Plain laws of scanning, as the statements on spans, on refused sources and on blanks need them. -/
namespace Go.Proofs.YtlagglkpbnbmeaaGreatDoor

theorem mScan_small {l : List UInt8} (h : l.length ≤ 16384) : mScan l = mScanR 0 l := by
  unfold mScan
  rw [if_neg (by omega)]
theorem scans_same {off off' : Nat} {l l' : List UInt8} {ts : List Tok} {e : Option Nat} (hs : mSkip false l = mSkip false l') (ho : off + skLen false l = off' + skLen false l') (h : Scans off' l' ts e) : Scans off l ts e := by
  cases h with
  | done _ _ h => exact .done _ _ (by rw [hs]; exact h)
  | bad _ _ h1 h2 =>
    rw [← ho]
    exact .bad _ _ (by rw [hs]; exact h1) (by rw [hs]; exact h2)
  | step _ _ t n ts e hm h =>
    rw [← ho] at h ⊢
    exact .step _ _ _ _ _ _ (by rw [hs]; exact hm) (by rw [hs]; exact h)
def Tok.nude (t : Tok) : Tok := ⟨t.k, 0, 0, t.s, t.n⟩
end Go.Proofs.YtlagglkpbnbmeaaGreatDoor

/- Plain laws of scanning: a number's text, a text's text, a key word, a name are one token. -/
namespace Go.Proofs.YtlagglkpbnbmeaaGreatDoor

theorem skip_stay {c : UInt8} {r : List UInt8} (h1 : isBlank c = false) (h2 : c.toNat ≠ 35) : mSkip false (c :: r) = c :: r := by rw [mSkip, if_neg (by simp [h1]), if_neg h2]
theorem takeWhile_all {p : UInt8 → Bool} : ∀ {r : List UInt8}, r.all p = true → r.takeWhile p = r
  | [], _ => rfl
  | c :: r, h => by
    simp only [List.all_cons, Bool.and_eq_true] at h
    rw [List.takeWhile_cons, if_pos h.1, takeWhile_all h.2]

theorem mNum_len {n : Int} (h1 : -9223372036854775808 ≤ n) (h2 : n ≤ 9223372036854775807) : (mNum n).length ≤ 20 := by
  have hl := mDigits_len (u := n.natAbs) (by rw [pow19]; omega)
  unfold mNum
  split
  · simp; omega
  · omega
theorem esc_no34 (c : UInt8) : ∀ x ∈ esc c, x.toNat ≠ 34 := by
  have hx : ∀ n, n < 16 → (hexD n).toNat ≠ 34 := by decide
  intro x hx1
  unfold esc at hx1
  split at hx1
  · rename_i hp
    simp only [List.mem_singleton] at hx1
    subst hx1
    exact ((isPlain_iff' x).1 hp).2.2.1
  · have hc := c.toNat_lt
    simp only [List.mem_cons, List.not_mem_nil, or_false] at hx1
    rcases hx1 with rfl | rfl | rfl
    · decide
    · exact hx _ (by omega)
    · exact hx _ (by omega)
theorem takeWhile_quote (l : List UInt8) (h : ∀ x ∈ l, x.toNat ≠ 34) : (l ++ [34]).takeWhile (fun x => x.toNat != 34) = l := by
  induction l with
  | nil => decide
  | cons c r ih =>
    rw [List.cons_append, List.takeWhile_cons, if_pos (by simpa using h c (by simp)), ih (fun x hx => h x (by simp [hx]))]
theorem key_form : ∀ s ∈ kws, s.all isSmall = true ∧ s ≠ [] ∧ s.length ≤ 32 := by decide
theorem mKey_form {s : List UInt8} (h : mKey s = true) : s.all isSmall = true ∧ s ≠ [] ∧ s.length ≤ 32 := key_form s (by simpa [mKey] using h)
theorem part_of_small {c : UInt8} (h : isSmall c = true) : isPart c = true := by simp [isPart, h]
theorem all_part {r : List UInt8} (h : r.all isSmall = true) : r.all isPart = true := by
  rw [List.all_eq_true] at h ⊢
  exact fun x hx => part_of_small (h x hx)
theorem small_stay {c : UInt8} (h : isSmall c = true) : isBlank c = false ∧ c.toNat ≠ 35 := by
  simp only [isSmall, Bool.and_eq_true, decide_eq_true_eq] at h
  exact ⟨by simp [isBlank]; omega, by omega⟩
end Go.Proofs.YtlagglkpbnbmeaaGreatDoor

