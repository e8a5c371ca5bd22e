/- Plain laws of texts: what is quoted is read back, and nothing else is. -/
import Derived.Test.YtoadmjnaakbljaaDoorLexM
namespace Go.Proofs.YtoadmjnaakbljaaDoor

theorem isPlain_iff' (c : UInt8) : isPlain c = true ↔ 32 ≤ c.toNat ∧ c.toNat ≤ 126 ∧ c.toNat ≠ 34 ∧ c.toNat ≠ 92 := by simp [isPlain, and_assoc]
theorem hex_back : ∀ n : Fin 256, hexV (hexD (n.val / 16)) = some (n.val / 16) ∧ hexV (hexD (n.val % 16)) = some (n.val % 16) := by decide +kernel
theorem hexD_back : ∀ a : Fin 256, ∀ v, hexV (UInt8.ofNat a.val) = some v → hexD v = UInt8.ofNat a.val ∧ v < 16 := by
  have h : ∀ a : Fin 256, (match hexV (UInt8.ofNat a.val) with | some v => decide (hexD v = UInt8.ofNat a.val) && decide (v < 16) | none => true) = true := by decide +kernel
  intro a v hv
  have := h a
  rw [hv] at this
  simpa using this
theorem hexD_of {c : UInt8} {v : Nat} (h : hexV c = some v) : hexD v = c ∧ v < 16 := by
  have := hexD_back ⟨c.toNat, c.toNat_lt⟩ v (by simpa using h)
  simpa using this
theorem p92 : isPlain 92 = false := rfl
theorem mUnq_nil : mUnq [] = some [] := by rw [mUnq.eq_def]
theorem mUnq_c (c : UInt8) (r : List UInt8) (h : isPlain c = true) : mUnq (c :: r) = (mUnq r).map (c :: ·) := by rw [mUnq.eq_def]; simp only [h, if_true]
theorem mUnq_e {a b : Nat} (h l : UInt8) (r : List UInt8) (ha : hexV h = some a) (hb : hexV l = some b) (hp : isPlain (UInt8.ofNat (16 * a + b)) = false) :
    mUnq (92 :: h :: l :: r) = (mUnq r).map (UInt8.ofNat (16 * a + b) :: ·) := by
  rw [mUnq.eq_def]
  simp only [p92, ha, hb, hp, Bool.false_eq_true, if_false]
  rfl
theorem unq_esc (c : UInt8) (r : List UInt8) : mUnq (esc c ++ r) = (mUnq r).map (c :: ·) := by
  cases hp : isPlain c
  · have h1 : esc c = [92, hexD (c.toNat / 16), hexD (c.toNat % 16)] := by simp [esc, hp]
    have hb := hex_back ⟨c.toNat, c.toNat_lt⟩
    have he : UInt8.ofNat (16 * (c.toNat / 16) + c.toNat % 16) = c := by
      have : 16 * (c.toNat / 16) + c.toNat % 16 = c.toNat := by omega
      rw [this]; simp
    rw [h1]
    have := mUnq_e (a := c.toNat / 16) (b := c.toNat % 16) _ _ r hb.1 hb.2 (by rw [he]; exact hp)
    rw [he] at this
    exact this
  · have h1 : esc c = [c] := by simp [esc, hp]
    rw [h1]
    exact mUnq_c c r hp
theorem unq_long (t : List UInt8) : mUnq (t.flatMap esc) = some t := by
  induction t with
  | nil => exact mUnq_nil
  | cons c r ih => rw [List.flatMap_cons, unq_esc, ih]; rfl

/-- the reference's lenient reading; the number: how many bytes are still to be passed over -/
def hexPair : List UInt8 → Option UInt8
  | h :: l :: _ => match hexV h, hexV l with | some a, some b => some (UInt8.ofNat (16 * a + b)) | _, _ => none
  | _ => none
def mLenK : Nat → List UInt8 → List UInt8
  | _, [] => []
  | k + 1, _ :: r => mLenK k r
  | 0, c :: r =>
    if c.toNat = 92 then
      match hexPair r with
      | some v => v :: mLenK 2 r
      | none => c :: mLenK 0 r
    else c :: mLenK 0 r
def mLen (s : List UInt8) : List UInt8 := mLenK 0 s
theorem mLen_c (c : UInt8) (r : List UInt8) (h : c.toNat ≠ 92) : mLen (c :: r) = c :: mLen r := by simp only [mLen, mLenK, h, if_false]
theorem mLen_some (c v : UInt8) (r : List UInt8) (hc : c.toNat = 92) (h : hexPair r = some v) : mLen (c :: r) = v :: mLen (r.drop 2) := by
  match r, h with
  | a :: b :: r', h =>
    simp only [mLen, mLenK, hc, h, if_true, List.drop_succ_cons, List.drop_zero]
theorem mLen_none (c : UInt8) (r : List UInt8) (h : hexPair r = none) : mLen (c :: r) = c :: mLen r := by
  simp only [mLen, mLenK, h]
  split <;> rfl
theorem mLen_e {a b : Nat} (c h l : UInt8) (r : List UInt8) (hc : c.toNat = 92) (ha : hexV h = some a) (hb : hexV l = some b) : mLen (c :: h :: l :: r) = UInt8.ofNat (16 * a + b) :: mLen r :=
  mLen_some c _ (h :: l :: r) hc (by simp [hexPair, ha, hb])
theorem mLen_nil : mLen [] = [] := rfl
theorem len_esc (c : UInt8) (r : List UInt8) : mLen (esc c ++ r) = c :: mLen r := by
  cases hp : isPlain c
  · have h1 : esc c = [92, hexD (c.toNat / 16), hexD (c.toNat % 16)] := by simp [esc, hp]
    have hb := hex_back ⟨c.toNat, c.toNat_lt⟩
    have he : UInt8.ofNat (16 * (c.toNat / 16) + c.toNat % 16) = c := by
      have : 16 * (c.toNat / 16) + c.toNat % 16 = c.toNat := by omega
      rw [this]; simp
    rw [h1]
    have := mLen_e (a := c.toNat / 16) (b := c.toNat % 16) 92 _ _ r rfl hb.1 hb.2
    rw [he] at this
    exact this
  · have h1 : esc c = [c] := by simp [esc, hp]
    rw [h1]
    exact mLen_c c r ((isPlain_iff' c).1 hp).2.2.2
theorem len_long (t : List UInt8) : mLen (t.flatMap esc) = t := by
  induction t with
  | nil => rfl
  | cons c r ih => rw [List.flatMap_cons, len_esc, ih]
theorem unq_inv : ∀ (n : Nat) (s t : List UInt8), s.length ≤ n → mUnq s = some t → t.flatMap esc = s := by
  intro n
  induction n with
  | zero =>
    intro s t hs h
    have : s = [] := List.eq_nil_of_length_eq_zero (by omega)
    subst this
    rw [mUnq_nil] at h
    cases h
    rfl
  | succ n ih =>
    intro s t hs h
    match s with
    | [] =>
      rw [mUnq_nil] at h
      cases h
      rfl
    | c :: r =>
      cases hp : isPlain c
      · rw [mUnq.eq_def] at h
        simp only [hp, Bool.false_eq_true, if_false] at h
        by_cases hc : c.toNat = 92
        · simp only [hc, if_true] at h
          match r, h with
          | a :: b :: r', h =>
            simp only at h
            split at h
            · rename_i x y hx hy
              by_cases hpp : isPlain (UInt8.ofNat (16 * x + y)) = true
              · rw [if_pos hpp] at h
                cases h
              · rw [if_neg hpp, Option.map_eq_some_iff] at h
                obtain ⟨t', ht', rfl⟩ := h
                have hr := ih r' t' (by simp at hs; omega) ht'
                have hx' := hexD_of hx
                have hy' := hexD_of hy
                have hlt : 16 * x + y < 256 := by omega
                have htn : (UInt8.ofNat (16 * x + y)).toNat = 16 * x + y := by simp [Nat.mod_eq_of_lt hlt]
                have h1 : (16 * x + y) / 16 = x := by omega
                have h2 : (16 * x + y) % 16 = y := by omega
                rw [List.flatMap_cons, hr]
                have he : esc (UInt8.ofNat (16 * x + y)) = [92, a, b] := by
                  rw [esc, if_neg hpp, htn, h1, h2, hx'.1, hy'.1]
                rw [he]
                have : c = 92 := UInt8.toNat_inj.1 hc
                rw [this]
                rfl
            · cases h
        · simp [hc] at h
      · rw [mUnq_c c r hp, Option.map_eq_some_iff] at h
        obtain ⟨t', ht', rfl⟩ := h
        have hr := ih r t' (by simp at hs; omega) ht'
        rw [List.flatMap_cons, hr]
        simp [esc, hp]

/-- what stands between the quotes -/
def mMid (s : List UInt8) : List UInt8 := s.tail.dropLast
theorem mid_long (t : List UInt8) : mMid (mLong t) = t.flatMap esc := by simp [mMid, mLong]
theorem mUnquote_long (t : List UInt8) (h : t.length ≤ 200) : mUnquote (mLong t) = some t := by
  have h1 : (2 ≤ (mLong t).length ∧ (mLong t).head? = some 34 ∧ (mLong t).getLast? = some 34) := by
    refine ⟨by simp [mLong], by simp [mLong], by simp [mLong, List.getLast?_cons]⟩
  rw [mUnquote, if_pos h1]
  have := mid_long t
  rw [mMid] at this
  rw [this, unq_long]
  simp [h]
theorem mLong_mid (s : List UInt8) (h2 : 2 ≤ s.length) (hh : s.head? = some 34) (hl : s.getLast? = some 34) : 34 :: (mMid s ++ [34]) = s := by
  match s, h2 with
  | c :: r, h2 =>
    simp only [List.head?_cons, Option.some.injEq] at hh
    subst hh
    have hr : r ≠ [] := by
      intro e
      subst e
      simp at h2
    have hl2 : r.getLast hr = 34 := by
      rw [List.getLast?_cons_of_ne_nil hr, List.getLast?_eq_some_getLast hr] at hl
      exact Option.some.inj hl
    show 34 :: (r.dropLast ++ [34]) = 34 :: r
    rw [← hl2, List.dropLast_concat_getLast hr]
theorem mUnquote_inv (s t : List UInt8) (h : mUnquote s = some t) : mLong t = s ∧ t.length ≤ 200 := by
  unfold mUnquote at h
  split at h
  · rename_i hc
    split at h
    · rename_i t' ht'
      split at h
      · rename_i hl
        injection h with h
        subst h
        refine ⟨?_, hl⟩
        rw [mLong, unq_inv _ _ _ (Nat.le_refl _) ht']
        exact mLong_mid s hc.1 hc.2.1 hc.2.2
      · cases h
    · cases h
  · cases h
theorem refUnq_eq (s : List UInt8) : mUnquote s = if (mLen (mMid s)).length ≤ 200 ∧ mLong (mLen (mMid s)) = s then some (mLen (mMid s)) else none := by
  cases h : mUnquote s with
  | some t =>
    obtain ⟨h1, h2⟩ := mUnquote_inv s t h
    have h3 : mLen (mMid s) = t := by rw [← h1, mid_long, len_long]
    rw [h3, if_pos ⟨h2, h1⟩]
  | none =>
    rw [if_neg]
    rintro ⟨h1, h2⟩
    have := mUnquote_long _ h1
    rw [h2, h] at this
    cases this

end Go.Proofs.YtoadmjnaakbljaaDoor
