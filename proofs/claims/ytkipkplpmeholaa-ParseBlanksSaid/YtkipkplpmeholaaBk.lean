/- The plain law of ParseBlanks: other blanks between the tokens, the same tree but for places. -/
import Derived.Test.YtkipkplpmeholaaTs
import Derived.Test.YtkipkplpmeholaaLexQ2
namespace Go.Proofs.Ytkipkplpmeholaa
set_option linter.unusedVariables false
set_option linter.unusedSimpArgs false

theorem tyS_refl : ∀ t : Ty, mSame t t = true
  | .mk k n ks => by
    have h : mSames ks ks = true := go ks
    rw [mSame, show (Ty.mk k n ks).kind = k from rfl, show (Ty.mk k n ks).num = n from rfl, show (Ty.mk k n ks).kids = ks from rfl, h]
    simp
where go : ∀ l : List Ty, mSames l l = true
  | [] => by rw [mSames]
  | t :: r => by rw [mSames, tyS_refl t, go r]; rfl
mutual
theorem Pa.same_nude : ∀ (x y : Pa), y.nude = x.nude → x.same y = true
  | .mk k a b nm n s kids, .mk k' a' b' nm' n' s' kids', h => by
    rw [Pa.nude, Pa.nude] at h
    injection h with h1 _ _ h2 h3 h4 h5
    rw [Pa.same, pasSame_nude kids kids' h5]
    subst h1 h2 h3 h4
    simp
theorem pasSame_nude : ∀ (x y : List Pa), pasNude y = pasNude x → pasSame x y = true
  | [], [], _ => by rw [pasSame]
  | a :: l, b :: r, h => by
    rw [pasNude, pasNude] at h
    injection h with h1 h2
    rw [pasSame, Pa.same_nude a b h1, pasSame_nude l r h2]; rfl
  | [], _ :: _, h => by rw [pasNude, pasNude] at h; cases h
  | _ :: _, [], h => by rw [pasNude, pasNude] at h; cases h
end
mutual
theorem Ex.same_nude : ∀ (x y : Ex), y.nude = x.nude → x.same y = true
  | .mk k a b nm arg n s op A B pats kids, .mk k' a' b' nm' arg' n' s' op' A' B' pats' kids', h => by
    rw [Ex.nude, Ex.nude] at h
    injection h with h1 _ _ h2 h3 h4 h5 h6 h7 h8 h9 h10
    rw [Ex.same, exsSame_nude kids kids' h10, ← pasSame_all, pasSame_nude pats pats' h9]
    subst h1 h2 h3 h4 h5 h6 h7 h8
    simp [tyS_refl]
theorem exsSame_nude : ∀ (x y : List Ex), exsNude y = exsNude x → exsSame x y = true
  | [], [], _ => by rw [exsSame]
  | a :: l, b :: r, h => by
    rw [exsNude, exsNude] at h
    injection h with h1 h2
    rw [exsSame, Ex.same_nude a b h1, exsSame_nude l r h2]; rfl
  | [], _ :: _, h => by rw [exsNude, exsNude] at h; cases h
  | _ :: _, [], h => by rw [exsNude, exsNude] at h; cases h
end

/-! the text with other blanks -/
def sepOf (k : Nat) : List UInt8 := ([[32], [10], [32, 32, 9], [35, 10]] : List (List UInt8)).getD k []
theorem sep_cases {k : Nat} (h : k < 4) : k = 0 ∨ k = 1 ∨ k = 2 ∨ k = 3 := by omega
theorem sep_blank {k : Nat} (h : k < 4) : Blank (sepOf k) := by
  rcases sep_cases h with rfl | rfl | rfl | rfl
  · exact ⟨fun e => by show mSkip false (32 :: e) = _; rw [mSkip]; rfl, fun e => stop_cons (.inl (by decide))⟩
  · exact ⟨fun e => by show mSkip false (10 :: e) = _; rw [mSkip]; rfl, fun e => stop_cons (.inl (by decide))⟩
  · exact ⟨fun e => by show mSkip false (32 :: 32 :: 9 :: e) = _; rw [mSkip, mSkip, mSkip]; rfl, fun e => stop_cons (.inl (by decide))⟩
  · exact ⟨fun e => by show mSkip false (35 :: 10 :: e) = _; rw [mSkip, mSkip]; rfl, fun e => stop_cons (.inr rfl)⟩
def pieceT (b : List UInt8) (t : Tok) : List UInt8 := (b.drop t.a).take (t.b - t.a)
def lay (b : List UInt8) (h : Nat → Nat) : Nat → List Tok → List UInt8
  | _, [] => []
  | i, t :: ts => pieceT b t ++ (sepOf (h i) ++ lay b h (i + 1) ts)
theorem lay_snoc (b : List UInt8) (h : Nat → Nat) : ∀ (ts : List Tok) (t : Tok) (i : Nat), lay b h i (ts ++ [t]) = lay b h i ts ++ pieceT b t ++ sepOf (h (i + ts.length))
  | [], t, i => by simp [lay]
  | x :: ts, t, i => by
    rw [List.cons_append, lay, lay_snoc b h ts t (i + 1), lay, List.length_cons, show i + 1 + ts.length = i + (ts.length + 1) by omega]
    simp
theorem scans_lay {h : Nat → Nat} (hW : ∀ i, h i < 4) (b : List UInt8) : ∀ (ts : List Tok) (k i off : Nat), At b k ts none → ∃ us, Scans off (lay b h i ts) us none ∧ us.map Tok.nude = ts.map Tok.nude
  | [], k, i, off, ha => ⟨[], .done _ _ (by simp [lay, mSkip]), rfl⟩
  | t :: ts, k, i, off, ha => by
    obtain ⟨h1, h2, h3, h4, _, h5, h6⟩ := at_step ha
    have hn := mTok_len h5
    have hne : pieceT b t ≠ [] := by
      intro e
      have := congrArg List.length e
      unfold pieceT at this
      rw [List.length_take, List.length_drop] at this
      simp at this
      omega
    have hs : mSkip false (pieceT b t) = pieceT b t := by
      have hsl : mSkip false (b.drop t.a) = b.drop t.a := by
        obtain ⟨t0, n, e0, _, _⟩ := scans_head ha.2
        have : b.drop t.a = mSkip false (b.drop k) := by
          rw [skip_eq_drop false (b.drop k), List.drop_drop, e0]
          rfl
        rw [this, mSkip_idem]
      unfold pieceT
      rw [skip_take', hsl]
      unfold skLen
      rw [hsl, Nat.sub_self, Nat.sub_zero]
    have hw : mSkip false (lay b h i (t :: ts)) = lay b h i (t :: ts) := by
      rw [lay, skip_app _ _ _ (by rw [hs]; exact hne), hs]
    have hm : mTok (lay b h i (t :: ts)) = some (t.bare, t.b - t.a) := mTok_ext h5 (Nat.le_refl _) ((sep_blank (hW i)).2 _)
    have hl : (pieceT b t).length = t.b - t.a := by unfold pieceT; rw [List.length_take]; omega
    have hd : (lay b h i (t :: ts)).drop (t.b - t.a) = sepOf (h i) ++ lay b h (i + 1) ts := by
      rw [lay, List.drop_append_of_le_length (by omega), List.drop_eq_nil_of_le (by omega), List.nil_append]
    have hk : skLen false (lay b h i (t :: ts)) = 0 := by unfold skLen; rw [hw]; omega
    obtain ⟨us, hu1, hu2⟩ := scans_lay hW b ts t.b (i + 1) (off + (t.b - t.a) + skLen false (sepOf (h i) ++ lay b h (i + 1) ts) - skLen false (lay b h (i + 1) ts)) h6
    have hsk := (sep_blank (hW i)).1 (lay b h (i + 1) ts)
    have hle : skLen false (lay b h (i + 1) ts) ≤ skLen false (sepOf (h i) ++ lay b h (i + 1) ts) := by unfold skLen; rw [hsk, List.length_append]; omega
    have hu3 := scans_same (off := off + (t.b - t.a)) hsk (by omega) hu1
    have := Scans.step off (lay b h i (t :: ts)) t.bare (t.b - t.a) us none (by rw [hw]; exact hm) (by rw [hk, hw, hd, Nat.add_zero]; exact hu3)
    exact ⟨_, this, by rw [List.map_cons, List.map_cons, hu2]; rfl⟩
def exOf' (M : Except (Int × Int) Ex) : Ex := match M with | .ok x => x | .error _ => exB 0
def erOf' (M : Except (Int × Int) Ex) : Int := match M with | .ok _ => 0 | .error p => p.2
theorem lay_same {h : Nat → Nat} (hW : ∀ i, h i < 4) {b : List UInt8} {ts : List Tok} (hs : mScan b = .ok ts) (hl : (lay b h 0 ts).length ≤ 16384) :
    (exOf' (mParse b)).same (exOf' (mParse (lay b h 0 ts))) = true ∧ erOf' (mParse (lay b h 0 ts)) = erOf' (mParse b) := by
  have hb : b.length ≤ 16384 := by
    unfold mScan at hs
    split at hs
    · cases hs
    · omega
  rw [mScan_small hb] at hs
  obtain ⟨us, h1, h2⟩ := scans_lay hW b ts 0 0 0 (at_zero hs)
  have h3 : mScan (lay b h 0 ts) = .ok us := by rw [mScan_small hl, scans_det h1]; rfl
  rw [← mScan_small hb] at hs
  rcases mParse_nu hs h3 h2 with ⟨p, q, e1, e2⟩ | ⟨x, y, e1, e2, e3⟩
  · rw [e1, e2]
    refine ⟨?_, rfl⟩
    show Ex.same (exB 0) (exB 0) = true
    exact Ex.same_nude _ _ rfl
  · rw [e1, e2]
    exact ⟨Ex.same_nude _ _ e3, rfl⟩

end Go.Proofs.Ytkipkplpmeholaa
