/- Plain laws of scanning, as the statements on spans, on refused sources and on blanks need them. -/
import Derived.Test.YtlagglkpbnbmeaaLexQ
namespace Go.Proofs.Ytlagglkpbnbmeaa

theorem scans_head {off : Nat} {l : List UInt8} {t : Tok} {ts : List Tok} {e : Option Nat} (h : Scans off l (t :: ts) e) :
    ∃ t0 n, t = t0.at (off + skLen false l) (off + skLen false l + n) ∧ mTok (mSkip false l) = some (t0, n) ∧ Scans (off + skLen false l + n) ((mSkip false l).drop n) ts e := by
  cases h with
  | step _ _ t0 n _ _ hm h => exact ⟨t0, n, rfl, hm, h⟩
theorem scans_none {off : Nat} {l : List UInt8} (h : Scans off l [] none) : mSkip false l = [] := by
  cases h with
  | done _ _ h => exact h
theorem mScan_small {l : List UInt8} (h : l.length ≤ 16384) : mScan l = mScanR 0 l := by
  unfold mScan
  rw [if_neg (by omega)]
theorem mScan_blank {l : List UInt8} (h : l.length ≤ 16384) (hs : mSkip false l = []) : mScan l = .ok [] := by
  rw [mScan_small h, mScanR_nil _ _ hs]
theorem skLen_idem (m : Bool) (l : List UInt8) : skLen false (mSkip m l) = 0 := by
  unfold skLen
  rw [mSkip_idem, Nat.sub_self]
/-- a token's own bytes are that one token -/
theorem mScan_one {m : Bool} {l : List UInt8} {t : BTok} {n : Nat} (h : mTok (mSkip m l) = some (t, n)) (hl : n ≤ 16384) : mScan ((mSkip m l).take n) = .ok [t.at 0 n] := by
  have hn := mTok_len h
  have e : mSkip false ((mSkip m l).take n) = (mSkip m l).take n := by rw [skip_take', mSkip_idem, skLen_idem, Nat.sub_zero]
  have hm := mTok_cut h (Nat.le_refl n)
  have hz : skLen false ((mSkip m l).take n) = 0 := by unfold skLen; rw [e, Nat.sub_self]
  rw [mScan_small (by rw [List.length_take]; omega)]
  have h1 := Scans.step 0 ((mSkip m l).take n) t n [] none (by rw [e]; exact hm) (.done _ _ (by rw [e, List.drop_eq_nil_of_le (by rw [List.length_take]; omega)]; simp [mSkip]))
  have h2 := scans_det h1
  rw [hz, Nat.zero_add, Nat.zero_add] at h2
  exact h2

/-- the state of a scan between two tokens, in the source as it is -/
def At (b : List UInt8) (k : Nat) (ts : List Tok) (e : Option Nat) : Prop := k ≤ b.length ∧ Scans k (b.drop k) ts e
theorem at_zero {b : List UInt8} {ts : List Tok} (h : mScanR 0 b = .ok ts) : At b 0 ts none := ⟨by omega, by rw [List.drop_zero]; exact scans_of_ok h⟩
theorem at_step {b : List UInt8} {k : Nat} {t : Tok} {ts : List Tok} {e : Option Nat} (h : At b k (t :: ts) e) :
    k ≤ t.a ∧ t.a < t.b ∧ t.b ≤ b.length ∧ mSkip false ((b.drop k).take (t.a - k)) = [] ∧ (t.b - t.a ≤ 16384 → mScan ((b.drop t.a).take (t.b - t.a)) = .ok [t.bare.at 0 (t.b - t.a)]) ∧
      mTok (b.drop t.a) = some (t.bare, t.b - t.a) ∧ At b t.b ts e := by
  obtain ⟨hk, h⟩ := h
  obtain ⟨t0, n, rfl, hm, h'⟩ := scans_head h
  have hn := mTok_len hm
  have hle := mSkip_le false (b.drop k)
  have hsk := skip_eq_drop false (b.drop k)
  have hsl : skLen false (b.drop k) + (mSkip false (b.drop k)).length = b.length - k := by unfold skLen; rw [List.length_drop] at hle ⊢; omega
  rw [List.drop_drop] at hsk
  have e1 : k + skLen false (b.drop k) + n - (k + skLen false (b.drop k)) = n := by omega
  refine ⟨?_, ?_, ?_, ?_, ?_, ?_, ?_, ?_⟩
  · simp only [BTok.at]; omega
  · simp only [BTok.at]; omega
  · simp only [BTok.at]; omega
  · simp only [BTok.at]
    exact skip_take _ _ _ (by omega)
  · simp only [BTok.at, Tok.bare]
    rw [← hsk, e1]
    exact mScan_one hm
  · simp only [BTok.at, Tok.bare]
    rw [← hsk, e1]
    exact hm
  · simp only [BTok.at]; omega
  · simp only [BTok.at]
    rw [hsk, List.drop_drop] at h'
    exact h'
theorem at_end {b : List UInt8} {k : Nat} (h : At b k [] none) : mSkip false (b.drop k) = [] := scans_none h.2

/-! two sources, one behind the other -/
theorem scans_same {off off' : Nat} {l l' : List UInt8} {ts : List Tok} {e : Option Nat} (hs : mSkip false l = mSkip false l') (ho : off + skLen false l = off' + skLen false l') (h : Scans off' l' ts e) : Scans off l ts e := by
  cases h with
  | done _ _ h => exact .done _ _ (by rw [hs]; exact h)
  | bad _ _ h1 h2 =>
    rw [← ho]
    exact .bad _ _ (by rw [hs]; exact h1) (by rw [hs]; exact h2)
  | step _ _ t n ts e hm h =>
    rw [← ho] at h ⊢
    exact .step _ _ _ _ _ _ (by rw [hs]; exact hm) (by rw [hs]; exact h)
theorem stop_nl (b : List UInt8) : Stop (10 :: b) := stop_cons (.inl (by decide))
theorem skLen_app {l e : List UInt8} (h : mSkip false l ≠ []) : skLen false (l ++ e) = skLen false l := by
  unfold skLen
  rw [skip_app e false l h, List.length_append, List.length_append]
  omega
theorem scans_join {b : List UInt8} {us : List Tok} {e' : Option Nat} {off : Nat} {c : List UInt8} {ts : List Tok} {e : Option Nat} (h : Scans off c ts e) (he : e = none) (hb : Scans (off + c.length + 1) b us e') : Scans off (c ++ 10 :: b) (ts ++ us) e' := by
  induction h with
  | done off l hs =>
    refine scans_same (skip_nl b false l hs) ?_ hb
    have hle := mSkip_le false b
    unfold skLen
    rw [skip_nl b false l hs]
    simp only [List.length_append, List.length_cons]
    omega
  | bad => cases he
  | step off l t n ts e hm h ih =>
    have hn := mTok_len hm
    have hne := tok_ne hm
    have hle := mSkip_le false l
    have hsl : skLen false l + (mSkip false l).length = l.length := by unfold skLen; omega
    have hd : (mSkip false (l ++ 10 :: b)).drop n = (mSkip false l).drop n ++ 10 :: b := by rw [skip_app _ _ _ hne, List.drop_append_of_le_length hn.2]
    have e1 : off + skLen false l + n + ((mSkip false l).drop n).length + 1 = off + l.length + 1 := by rw [List.length_drop]; omega
    have := ih he (by rw [e1]; exact hb)
    rw [← hd, ← skLen_app (e := 10 :: b) hne] at this
    have h2 := Scans.step off (l ++ 10 :: b) t n _ _ (by rw [skip_app _ _ _ hne]; exact mTok_app hm (stop_nl b)) this
    rw [skLen_app hne] at h2
    exact h2
def Tok.shift (k : Nat) (t : Tok) : Tok := ⟨t.k, t.a + k, t.b + k, t.s, t.n⟩
theorem scans_shift (k : Nat) {off : Nat} {l : List UInt8} {ts : List Tok} {e : Option Nat} (h : Scans off l ts e) : Scans (off + k) l (ts.map (Tok.shift k)) (e.map (· + k)) := by
  induction h with
  | done off l hs => exact .done _ _ hs
  | bad off l hs hm =>
    have := Scans.bad (off + k) l hs hm
    rw [show off + k + skLen false l = off + skLen false l + k by omega] at this
    exact this
  | step off l t n ts e hm h ih =>
    rw [show off + skLen false l + n + k = off + k + skLen false l + n by omega] at ih
    have := Scans.step (off + k) l t n _ _ hm ih
    rw [List.map_cons]
    have e1 : Tok.shift k (t.at (off + skLen false l) (off + skLen false l + n)) = t.at (off + k + skLen false l) (off + k + skLen false l + n) := by
      simp only [Tok.shift, BTok.at, Tok.mk.injEq, true_and, and_true]
      omega
    rw [e1]
    exact this
/-- one source behind another, with a line's end between -/
theorem scan_join {c b : List UInt8} {ms : List Tok} (hc : mScanR 0 c = .ok ms) :
    mScanR 0 (c ++ 10 :: b) = (match mScanR 0 b with | .ok ts => .ok (ms ++ ts.map (Tok.shift (c.length + 1))) | .error p => .error (p + (c.length + 1))) := by
  obtain ⟨us, e, h1, h2⟩ := scans_ex b.length 0 b (Nat.le_refl _)
  have h3 := scans_shift (c.length + 1) h1
  rw [show 0 + (c.length + 1) = 0 + c.length + 1 by omega] at h3
  have h4 := scans_det (scans_join (scans_of_ok hc) rfl h3)
  rw [h4, h2]
  cases e <;> rfl
/-- what stands ahead of the error's place -/
theorem scan_ahead {b : List UInt8} {p : Nat} (h : mScanR 0 b = .error p) : p < b.length ∧ ∃ ts, mScanR 0 (b.take p) = .ok ts := by
  obtain ⟨ts, h1⟩ := scans_of_error h
  have h2 := (scans_at h1).2 p rfl
  have h3 := scans_det (scans_cut h1)
  rw [Nat.sub_zero] at h3
  exact ⟨by omega, ts, h3⟩

/-! blanks -/
def Blank (w : List UInt8) : Prop := (∀ e, mSkip false (w ++ e) = mSkip false e) ∧ ∀ e, Stop (w ++ e)
/-- the source, with these blanks between its tokens -/
def woven (W : Nat → List UInt8) (b : List UInt8) : Nat → List Tok → List UInt8
  | i, [] => W i
  | i, t :: ts => W i ++ (b.drop t.a).take (t.b - t.a) ++ woven W b (i + 1) ts
theorem woven_stop {W : Nat → List UInt8} (hW : ∀ i, Blank (W i)) (b : List UInt8) (i : Nat) (ts : List Tok) : Stop (woven W b i ts) := by
  cases ts with
  | nil =>
    have := (hW i).2 []
    rwa [List.append_nil] at this
  | cons t ts =>
    rw [woven, List.append_assoc]
    exact (hW i).2 _
def Tok.nude (t : Tok) : Tok := ⟨t.k, 0, 0, t.s, t.n⟩
theorem scans_woven {W : Nat → List UInt8} (hW : ∀ i, Blank (W i)) (b : List UInt8) : ∀ (ts : List Tok) (k i off : Nat), At b k ts none → ∃ us, Scans off (woven W b i ts) us none ∧ us.map Tok.nude = ts.map Tok.nude
  | [], k, i, off, h => by
    refine ⟨[], .done _ _ ?_, rfl⟩
    have := (hW i).1 []
    rw [List.append_nil] at this
    rw [woven, this]
    simp [mSkip]
  | t :: ts, k, i, off, h => by
    obtain ⟨h1, h2, h3, h4, _, h5, h6⟩ := at_step h
    have hn := mTok_len h5
    have hw : mSkip false (woven W b i (t :: ts)) = (b.drop t.a).take (t.b - t.a) ++ woven W b (i + 1) ts := by
      rw [woven, List.append_assoc, (hW i).1]
      have hne : (b.drop t.a).take (t.b - t.a) ≠ [] := by
        intro e
        have := congrArg List.length e
        rw [List.length_take, List.length_drop] at this
        simp at this
        omega
      have hs : mSkip false ((b.drop t.a).take (t.b - t.a)) = (b.drop t.a).take (t.b - t.a) := by
        have hsl : mSkip false (b.drop t.a) = b.drop t.a := by
          obtain ⟨t0, n, e0, _, _⟩ := scans_head h.2
          have : b.drop t.a = mSkip false (b.drop k) := by
            rw [skip_eq_drop false (b.drop k), List.drop_drop, e0]
            rfl
          rw [this, mSkip_idem]
        rw [skip_take', hsl]
        unfold skLen
        rw [hsl, Nat.sub_self, Nat.sub_zero]
      rw [skip_app _ _ _ (by rw [hs]; exact hne), hs]
    have hm := mTok_ext h5 (Nat.le_refl _) (woven_stop hW b (i + 1) ts)
    have hl : ((b.drop t.a).take (t.b - t.a)).length = t.b - t.a := by rw [List.length_take]; omega
    obtain ⟨us, hu1, hu2⟩ := scans_woven hW b ts t.b (i + 1) (off + skLen false (woven W b i (t :: ts)) + (t.b - t.a)) h6
    refine ⟨_, .step _ _ t.bare (t.b - t.a) us none (by rw [hw]; exact hm) ?_, ?_⟩
    · rw [hw, List.drop_append_of_le_length (by omega), List.drop_eq_nil_of_le (by omega), List.nil_append]
      exact hu1
    · rw [List.map_cons, List.map_cons, hu2]
      rfl
theorem woven_snoc (W : Nat → List UInt8) (b : List UInt8) (ts : List Tok) (i : Nat) (hi : i < ts.length) : woven W b i (ts.drop i) = W i ++ (b.drop (ts[i]'hi).a).take ((ts[i]'hi).b - (ts[i]'hi).a) ++ woven W b (i + 1) (ts.drop (i + 1)) := by
  rw [List.drop_eq_getElem_cons hi, woven]

def blanks : List (List UInt8) := [[32], [10], [9, 13], [32, 32], [35, 32, 120, 32, 36, 32, 34, 10], [10, 35, 10], [32, 35, 126, 10, 10]]
theorem blanks_ok : ∀ k (h : k < 7), Blank (blanks[k]'h) := by
  intro k h
  have hk : k = 0 ∨ k = 1 ∨ k = 2 ∨ k = 3 ∨ k = 4 ∨ k = 5 ∨ k = 6 := by omega
  rcases hk with rfl | rfl | rfl | rfl | rfl | rfl | rfl
  all_goals
    refine ⟨fun e => ?_, fun e => stop_cons (by decide)⟩
    simp [blanks, mSkip, isBlank]

end Go.Proofs.Ytlagglkpbnbmeaa
