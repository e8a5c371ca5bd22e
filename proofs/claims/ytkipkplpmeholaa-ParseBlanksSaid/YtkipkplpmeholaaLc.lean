/- The part of a source ahead of one of its tokens has the tokens ahead of that one. -/
import Derived.Test.YtkipkplpmeholaaLexQ2
namespace Go.Proofs.Ytkipkplpmeholaa

theorem scans_pre {off : Nat} {l : List UInt8} {ts : List Tok} {e : Option Nat} (h : Scans off l ts e) : ∀ (i : Nat) (u : Tok), ts[i]? = some u → Scans off (l.take (u.a - off)) (ts.take i) none := by
  induction h with
  | done => intro i u hu; simp at hu
  | bad => intro i u hu; simp at hu
  | step off l t n ts e hm h ih =>
    have hn := mTok_len hm
    have hle := mSkip_le false l
    intro i u hu
    have hskd : skLen false l + (mSkip false l).length = l.length := by unfold skLen; omega
    rcases i with _ | i
    · simp only [List.getElem?_cons_zero, Option.some.injEq] at hu
      subst hu
      refine .done _ _ (skip_take _ _ _ ?_)
      simp only [BTok.at]; omega
    · rw [List.getElem?_cons_succ] at hu
      have ih := ih i u hu
      have hat := (scans_at h).1 u (List.mem_of_getElem? hu)
      rw [List.length_drop] at hat
      have hsk : mSkip false (l.take (u.a - off)) = (mSkip false l).take (u.a - off - skLen false l) := skip_take' _ _ _
      have hskl : skLen false (l.take (u.a - off)) = skLen false l := by
        have e1 : skLen false l = l.length - (mSkip false l).length := rfl
        unfold skLen at *
        rw [hsk, List.length_take, List.length_take]
        omega
      have hm' := mTok_cut hm (m := u.a - off - skLen false l) (by omega)
      rw [← hsk] at hm'
      have hst := Scans.step off (l.take (u.a - off)) t n (ts.take i) none hm' (by
        rw [hskl, hsk, List.drop_take]
        rw [show u.a - off - skLen false l - n = u.a - (off + skLen false l + n) by omega]
        exact ih)
      rw [hskl] at hst
      rw [List.take_succ_cons]
      exact hst
theorem mScan_R {b : List UInt8} {ts : List Tok} (h : mScan b = .ok ts) : b.length ≤ 16384 ∧ mScanR 0 b = .ok ts := by
  unfold mScan at h
  split at h
  · cases h
  · exact ⟨by omega, h⟩
theorem mScan_pre {b : List UInt8} {ts : List Tok} (h : mScan b = .ok ts) {i : Nat} {u : Tok} (hu : ts[i]? = some u) : mScan (b.take u.a) = .ok (ts.take i) := by
  obtain ⟨h1, h2⟩ := mScan_R h
  have h3 := scans_pre (scans_of_ok h2) i u hu
  have h4 := scans_det h3
  rw [Nat.sub_zero] at h4
  unfold mScan
  rw [if_neg (by rw [List.length_take]; omega)]
  exact h4
theorem mScan_places {b : List UInt8} {ts : List Tok} (h : mScan b = .ok ts) {t : Tok} (ht : t ∈ ts) : t.a < t.b ∧ t.b ≤ b.length := by
  have := (scans_at (scans_of_ok (mScan_R h).2)).1 t ht
  omega

end Go.Proofs.Ytkipkplpmeholaa
