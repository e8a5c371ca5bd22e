/- Bundle of LexQ LexQ2 LexQ3. -/
import Derived.Test.YtlagglkpbnbmeaaGreatDoorLY

/- Plain laws of scanning: what a source's parts scan to. -/
namespace Go.Proofs.YtlagglkpbnbmeaaGreatDoor

def Stop (e : List UInt8) : Prop := ∀ c r, e = c :: r → (isPart c = false ∧ isDig c = false ∧ ∀ d, twoSign d c = false)
def skLen (m : Bool) (l : List UInt8) : Nat := l.length - (mSkip m l).length
inductive Scans : Nat → List UInt8 → List Tok → Option Nat → Prop where
  | done (off : Nat) (l : List UInt8) : mSkip false l = [] → Scans off l [] none
  | bad (off : Nat) (l : List UInt8) : mSkip false l ≠ [] → mTok (mSkip false l) = none → Scans off l [] (some (off + skLen false l))
  | step (off : Nat) (l : List UInt8) (t : BTok) (n : Nat) (ts : List Tok) (e : Option Nat) : mTok (mSkip false l) = some (t, n) → Scans (off + skLen false l + n) ((mSkip false l).drop n) ts e →
      Scans off l (t.at (off + skLen false l) (off + skLen false l + n) :: ts) e

def outOf (ts : List Tok) : Option Nat → Except Nat (List Tok)
  | none => .ok ts
  | some p => .error p
theorem scans_ex : ∀ (k : Nat) (off : Nat) (l : List UInt8), l.length ≤ k → ∃ ts e, Scans off l ts e ∧ mScanR off l = outOf ts e
  | 0, off, l, hk => by
    have : l = [] := List.eq_nil_of_length_eq_zero (by omega)
    subst this
    exact ⟨[], none, .done _ _ (by simp [mSkip]), mScanR_nil _ _ (by simp [mSkip])⟩
  | k + 1, off, l, hk => by
    by_cases hs : mSkip false l = []
    · exact ⟨[], none, .done _ _ hs, mScanR_nil _ _ hs⟩
    · cases hm : mTok (mSkip false l) with
      | none => exact ⟨[], _, .bad _ _ hs hm, mScanR_none _ _ hs hm⟩
      | some p =>
        obtain ⟨t, n⟩ := p
        have hn := mTok_len hm
        have hle := mSkip_le false l
        obtain ⟨ts, e, h1, h2⟩ := scans_ex k (off + skLen false l + n) ((mSkip false l).drop n) (by rw [List.length_drop]; omega)
        refine ⟨_, e, .step _ _ _ _ _ _ hm h1, ?_⟩
        rw [mScanR_some _ _ hs hm]
        show pre _ (mScanR (off + skLen false l + n) _) = _
        rw [h2]
        cases e <;> rfl
theorem scans_of_ok {off : Nat} {l : List UInt8} {ts : List Tok} (h : mScanR off l = .ok ts) : Scans off l ts none := by
  obtain ⟨us, e, h1, h2⟩ := scans_ex l.length off l (Nat.le_refl _)
  rw [h] at h2
  cases e with
  | none => cases h2; exact h1
  | some p => cases h2
theorem scans_len {off : Nat} {l : List UInt8} {ts : List Tok} {e : Option Nat} (h : Scans off l ts e) : ts.length ≤ l.length := by
  induction h with
  | done => simp
  | bad => simp
  | step off l t n ts e hm _ ih =>
    have hn := mTok_len hm
    have hle := mSkip_le false l
    rw [List.length_drop] at ih
    simp only [List.length_cons]
    omega
theorem mScan_len {l : List UInt8} {ts : List Tok} (h : mScan l = .ok ts) : ts.length ≤ 16384 := by
  unfold mScan at h
  split at h
  · cases h
  · have := scans_len (scans_of_ok h)
    omega
end Go.Proofs.YtlagglkpbnbmeaaGreatDoor

/- Plain laws of scanning, as the statements on spans, on refused sources and on blanks need them. -/
namespace Go.Proofs.YtlagglkpbnbmeaaGreatDoor

end Go.Proofs.YtlagglkpbnbmeaaGreatDoor

/- Plain laws of scanning: a number's text, a text's text, a key word, a name are one token. -/
namespace Go.Proofs.YtlagglkpbnbmeaaGreatDoor

theorem mNum_len {n : Int} (h1 : -9223372036854775808 ≤ n) (h2 : n ≤ 9223372036854775807) : (mNum n).length ≤ 20 := by
  have hl := mDigits_len (u := n.natAbs) (by rw [pow19]; omega)
  unfold mNum
  split
  · simp; omega
  · omega
end Go.Proofs.YtlagglkpbnbmeaaGreatDoor

