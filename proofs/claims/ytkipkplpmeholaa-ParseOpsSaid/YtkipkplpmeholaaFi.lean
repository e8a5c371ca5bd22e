/- The plain law of ParseFirst: an error at a token stands, whatever follows that token. -/
import Derived.Test.YtkipkplpmeholaaBg
namespace Go.Proofs.Ytkipkplpmeholaa
set_option linter.unusedVariables false

theorem scans_then {off : Nat} {l : List UInt8} {ts : List Tok} {e : Option Nat} (h : Scans off l ts e) : ∀ (j : Nat) (u : Tok), ts[j]? = some u → ∀ {tail : List UInt8} {us : List Tok} {e' : Option Nat}, Stop tail → Scans u.b tail us e' → Scans off (l.take (u.b - off) ++ tail) (ts.take (j + 1) ++ us) e' := by
  induction h with
  | done => intro j u hu; simp at hu
  | bad => intro j u hu; simp at hu
  | step off l t n ts e hm h ih =>
    have hn := mTok_len hm
    have hle := mSkip_le false l
    have hskd : skLen false l + (mSkip false l).length = l.length := by unfold skLen; omega
    intro j u hu tail us e' hst hsc
    have hub : off + skLen false l + n ≤ u.b ∧ u.b ≤ off + l.length := by
      rcases j with _ | j
      · simp only [List.getElem?_cons_zero, Option.some.injEq] at hu
        subst hu
        simp only [BTok.at]; omega
      · rw [List.getElem?_cons_succ] at hu
        have hat := (scans_at h).1 u (List.mem_of_getElem? hu)
        rw [List.length_drop] at hat
        omega
    have hsk : mSkip false (l.take (u.b - off)) = (mSkip false l).take (u.b - off - skLen false l) := skip_take' _ _ _
    have hne : mSkip false (l.take (u.b - off)) ≠ [] := by
      rw [hsk]
      intro e0
      have := congrArg List.length e0
      rw [List.length_take, List.length_nil] at this
      omega
    have hskl0 : skLen false (l.take (u.b - off)) = skLen false l := by
      have e1 : skLen false l = l.length - (mSkip false l).length := rfl
      unfold skLen at *
      rw [hsk, List.length_take, List.length_take]
      omega
    have happ := skip_app tail false (l.take (u.b - off)) hne
    have hskl : skLen false (l.take (u.b - off) ++ tail) = skLen false l := by rw [skLen_app hne, hskl0]
    have hm' : mTok (mSkip false (l.take (u.b - off) ++ tail)) = some (t, n) := by
      rw [happ, hsk]
      exact mTok_ext hm (by omega) hst
    have key : Scans (off + skLen false (l.take (u.b - off) ++ tail) + n) ((mSkip false (l.take (u.b - off) ++ tail)).drop n) (ts.take j ++ us) e' := by
      rw [hskl, happ, hsk, List.drop_append, List.length_take, show n - min (u.b - off - skLen false l) (mSkip false l).length = 0 by omega, List.drop_zero, List.drop_take]
      rcases j with _ | j
      · simp only [List.getElem?_cons_zero, Option.some.injEq] at hu
        subst hu
        simp only [BTok.at] at hsc ⊢
        rw [show off + skLen false l + n - off - skLen false l - n = 0 by omega]
        simpa using hsc
      · rw [List.getElem?_cons_succ] at hu
        have := ih j u hu hst hsc
        rw [show u.b - off - skLen false l - n = u.b - (off + skLen false l + n) by omega]
        exact this
    have := Scans.step off (l.take (u.b - off) ++ tail) t n (ts.take j ++ us) e' hm' key
    rw [hskl] at this
    rw [List.take_succ_cons, List.cons_append]
    exact this
theorem scans_space {off : Nat} {c : List UInt8} {us : List Tok} (h : Scans 0 c us none) : ∃ vs, Scans off (32 :: c) vs none := by
  have h1 := scans_shift (off + 1) h
  have hs : mSkip false (32 :: c) = mSkip false c := by rw [mSkip, if_pos (by simp [isBlank])]
  have hk : skLen false (32 :: c) = skLen false c + 1 := by
    unfold skLen
    rw [hs]
    have := mSkip_le false c
    simp only [List.length_cons]; omega
  refine ⟨_, scans_same hs ?_ h1⟩
  rw [hk]; omega
theorem scans_mono {off : Nat} {l : List UInt8} {ts : List Tok} {e : Option Nat} (h : Scans off l ts e) : ∀ (i j : Nat) (x y : Tok), i < j → ts[i]? = some x → ts[j]? = some y → x.a < y.a := by
  induction h with
  | done => intro i j x y _ h; simp at h
  | bad => intro i j x y _ h; simp at h
  | step off l t n ts e hm h ih =>
    have hn := mTok_len hm
    intro i j x y hij hx hy
    rcases j with _ | j
    · omega
    · rw [List.getElem?_cons_succ] at hy
      rcases i with _ | i
      · simp only [List.getElem?_cons_zero, Option.some.injEq] at hx
        subst hx
        have hat := (scans_at h).1 y (List.mem_of_getElem? hy)
        simp only [BTok.at]; omega
      · rw [List.getElem?_cons_succ] at hx
        exact ih i j x y (by omega) hx hy
theorem first_at {bs cs : List UInt8} {ts us : List Tok} (hs : mScan bs = .ok ts) (hc : mScan cs = .ok us) {j : Nat} {u : Tok} (hu : ts[j]? = some u) (hl : bs.length + cs.length ≤ 10000) (hp : plQ (qExprF ts (ts.length + 1) 0) = j) : mParse (bs.take u.b ++ [32] ++ cs) = .error ((u.a : Int), 3) := by
  have hj : j < ts.length := (List.getElem?_eq_some_iff.1 hu).1
  obtain ⟨vs, hv⟩ := scans_space (off := u.b) (scans_of_ok (mScan_R hc).2)
  have h1 := scans_then (scans_of_ok (mScan_R hs).2) j u hu (tail := 32 :: cs) (stop_cons (.inl (by decide))) hv
  rw [Nat.sub_zero] at h1
  have hd : bs.take u.b ++ [32] ++ cs = bs.take u.b ++ 32 :: cs := by simp
  have hsd : mScan (bs.take u.b ++ [32] ++ cs) = .ok (ts.take (j + 1) ++ vs) := by
    rw [hd]
    unfold mScan
    rw [if_neg (by rw [List.length_append, List.length_take, List.length_cons]; omega)]
    exact scans_det h1
  have hA : Agr ts (ts.take (j + 1) ++ vs) j := fun k hk => by
    rw [List.getElem?_append_left (by rw [List.length_take]; omega), List.getElem?_take, if_pos (by omega)]
  have hlen : j < (ts.take (j + 1) ++ vs).length := by rw [List.length_append, List.length_take]; omega
  have hag := qExprF_ag hA (ts.length + 1) ((ts.take (j + 1) ++ vs).length + 1) 0 (Nat.zero_le _) (by omega) (by omega) (by omega)
  have hfr : frE (ts.take (j + 1) ++ vs) j = (u.a : Int) := by rw [agF hA (Nat.le_refl _)]; unfold frE; rw [hu]
  unfold mParse
  simp only [hsd, hag]
  rcases hx : qExprF ts (ts.length + 1) 0 with ⟨e, q⟩ | ⟨a, k⟩
  · rw [hx] at hp
    have hp : e = j := hp
    subst hp
    simp only [if_neg (show ¬ e = (ts.take (e + 1) ++ vs).length by omega), hfr]
  · rw [hx] at hp
    have hp : k = j := hp
    subst hp
    simp only [if_neg (show ¬ k = (ts.take (k + 1) ++ vs).length by omega), hfr]
theorem err_place {bs : List UInt8} {ts : List Tok} (hs : mScan bs = .ok ts) {p e : Int} (h : mParse bs = .error (p, e)) (hp : p < (bs.length : Int)) : ∃ j u, ts[j]? = some u ∧ p = (u.a : Int) ∧ plQ (qExprF ts (ts.length + 1) 0) = j := by
  have hok := qExprF_ok ts (ts.length + 1) 0 (Nat.zero_le _)
  unfold mParse at h
  simp only [hs] at h
  rcases hx : qExprF ts (ts.length + 1) 0 with ⟨j, q⟩ | ⟨a, j⟩
  · have := okE hok hx
    simp only [hx] at h
    split at h
    · cases h; omega
    · cases h
      have hj : j < ts.length := by omega
      exact ⟨j, ts[j], List.getElem?_eq_getElem hj, by unfold frE; rw [List.getElem?_eq_getElem hj], rfl⟩
  · have := okO hok hx
    simp only [hx] at h
    split at h
    · cases h
    · cases h
      have hj : j < ts.length := by omega
      exact ⟨j, ts[j], List.getElem?_eq_getElem hj, by unfold frE; rw [List.getElem?_eq_getElem hj], rfl⟩
theorem tok_mono {bs : List UInt8} {ts : List Tok} (hs : mScan bs = .ok ts) {i j : Nat} {x y : Tok} (hx : ts[i]? = some x) (hy : ts[j]? = some y) (ha : x.a = y.a) : i = j := by
  have hm := scans_mono (scans_of_ok (mScan_R hs).2)
  rcases Nat.lt_trichotomy i j with h | h | h
  · have := hm i j x y h hx hy; omega
  · exact h
  · have := hm j i y x h hy hx; omega

end Go.Proofs.Ytkipkplpmeholaa
