/- The plain law of ParseBegins: what stands ahead of the place of an error, or of a token, is a program or ends too early. -/
import Derived.Test.YtkipkplpmeholaaEa
import Derived.Test.YtkipkplpmeholaaLc
namespace Go.Proofs.Ytkipkplpmeholaa
set_option linter.unusedVariables false

theorem agr_take (ts : List Tok) {i m : Nat} (h : m < i) : Agr (ts.take i) ts m := fun k hk => by
  rw [List.getElem?_take, if_pos (by omega)]
theorem cut_place (ts : List Tok) {i : Nat} (hi : i ≤ ts.length) (hj : i ≤ plQ (qExprF ts (ts.length + 1) 0)) : plQ (qExprF (ts.take i) ((ts.take i).length + 1) 0) = i := by
  have hl : (ts.take i).length = i := by rw [List.length_take]; omega
  have hok := qExprF_ok (ts.take i) ((ts.take i).length + 1) 0 (Nat.zero_le _)
  have hle : plQ (qExprF (ts.take i) ((ts.take i).length + 1) 0) ≤ i := by
    rcases hx : qExprF (ts.take i) ((ts.take i).length + 1) 0 with ⟨e, q⟩ | ⟨a, j⟩
    · have := okE hok hx; show e ≤ i; omega
    · have := okO hok hx; show j ≤ i; omega
  rcases Nat.lt_or_ge (plQ (qExprF (ts.take i) ((ts.take i).length + 1) 0)) i with h | h
  · have := qExprF_ag (agr_take ts h) ((ts.take i).length + 1) (ts.length + 1) 0 (Nat.zero_le _) (by omega) (by omega) (Nat.le_refl _)
    rw [this] at hj
    omega
  · omega
theorem mParse_place {bs : List UInt8} {ts : List Tok} (hs : mScan bs = .ok ts) (hp : plQ (qExprF ts (ts.length + 1) 0) = ts.length) : (∃ y, mParse bs = .ok y) ∨ mParse bs = .error ((bs.length : Int), 3) := by
  unfold mParse
  simp only [hs]
  rcases hx : qExprF ts (ts.length + 1) 0 with ⟨e, q⟩ | ⟨a, j⟩
  · rw [hx] at hp
    have hp : e = ts.length := hp
    exact .inr (by simp only [hp, if_true])
  · rw [hx] at hp
    have hp : j = ts.length := hp
    exact .inl ⟨a, by simp only [hp, if_true]⟩
theorem begins_at {bs : List UInt8} {ts : List Tok} (hs : mScan bs = .ok ts) {i : Nat} {u : Tok} (hu : ts[i]? = some u) (hj : i ≤ plQ (qExprF ts (ts.length + 1) 0)) : u.a ≤ bs.length ∧ ((∃ y, mParse (bs.take u.a) = .ok y) ∨ mParse (bs.take u.a) = .error ((u.a : Int), 3)) := by
  have hi : i < ts.length := (List.getElem?_eq_some_iff.1 hu).1
  have hpl := mScan_places hs (List.mem_of_getElem? hu)
  have h1 := mScan_pre hs hu
  have h2 := cut_place ts (Nat.le_of_lt hi) hj
  have hl : (ts.take i).length = i := by rw [List.length_take]; omega
  have hb : (bs.take u.a).length = u.a := by rw [List.length_take]; omega
  have := mParse_place h1 (by rw [hl] at h2 ⊢; exact h2)
  rw [hb] at this
  exact ⟨by omega, this⟩
theorem mParse_err {bs : List UInt8} {ts : List Tok} (hs : mScan bs = .ok ts) {p e : Int} (h : mParse bs = .error (p, e)) : e = 3 ∧ ∃ k : Nat, p = (k : Int) ∧ k ≤ bs.length ∧ ((∃ y, mParse (bs.take k) = .ok y) ∨ mParse (bs.take k) = .error ((k : Int), 3)) := by
  have hok := qExprF_ok ts (ts.length + 1) 0 (Nat.zero_le _)
  have h0 := h
  unfold mParse at h
  simp only [hs] at h
  have go : ∀ j, plQ (qExprF ts (ts.length + 1) 0) = j → j < ts.length → ∃ k : Nat, frE ts j = (k : Int) ∧ k ≤ bs.length ∧ ((∃ y, mParse (bs.take k) = .ok y) ∨ mParse (bs.take k) = .error ((k : Int), 3)) := fun j hj hlt => by
    have hu : ts[j]? = some ts[j] := List.getElem?_eq_getElem hlt
    obtain ⟨h1, h2⟩ := begins_at hs hu (by omega)
    exact ⟨ts[j].a, by unfold frE; rw [hu], h1, h2⟩
  rcases hx : qExprF ts (ts.length + 1) 0 with ⟨j, q⟩ | ⟨a, j⟩
  · have := okE hok hx
    simp only [hx] at h
    split at h
    · cases h
      exact ⟨rfl, bs.length, rfl, Nat.le_refl _, .inr (by rw [List.take_length]; exact h0)⟩
    · cases h
      obtain ⟨k, h1, h2⟩ := go j (by rw [hx]; rfl) (by omega)
      exact ⟨rfl, k, h1, h2⟩
  · have := okO hok hx
    simp only [hx] at h
    split at h
    · cases h
    · cases h
      obtain ⟨k, h1, h2⟩ := go j (by rw [hx]; rfl) (by omega)
      exact ⟨rfl, k, h1, h2⟩
theorem mParse_okp {bs : List UInt8} {ts : List Tok} (hs : mScan bs = .ok ts) {x : Ex} (h : mParse bs = .ok x) : plQ (qExprF ts (ts.length + 1) 0) = ts.length := by
  unfold mParse at h
  simp only [hs] at h
  rcases hx : qExprF ts (ts.length + 1) 0 with ⟨j, q⟩ | ⟨a, j⟩
  · simp only [hx] at h
    split at h <;> cases h
  · simp only [hx] at h
    split at h
    · assumption
    · cases h

end Go.Proofs.Ytkipkplpmeholaa
