/- Bundle of Rd1 Rd2 Rd3 Sn. -/
import Derived.Test.YtlagglkpbnbmeaaGreatDoorPT
import Derived.Test.YtlagglkpbnbmeaaGreatDoorNu
import Derived.Test.YtlagglkpbnbmeaaGreatDoorTs
import Derived.Test.YtlagglkpbnbmeaaGreatDoorRU

/- The plain law of layer 7: the tokens of a pattern's text, and what is read among them. No program in sight. -/
namespace Go.Proofs.YtlagglkpbnbmeaaGreatDoor
set_option linter.unusedVariables false
set_option linter.unusedSimpArgs false

theorem Stop.bound {r : List UInt8} (h : Stop r) : Bound r := fun c q e => (h c q e).1
theorem stop_sg {c : UInt8} {r : List UInt8} (h : c = 41 ∨ c = 44) : Stop (c :: r) := by
  intro d q e
  cases e
  rcases h with rfl | rfl <;> exact ⟨by decide, by decide, fun d => by simp [twoSign]⟩
theorem stop_sp {r : List UInt8} : Stop (32 :: r) := stop_cons (.inl (by decide))
theorem sc_of {c : UInt8} {q r : List UInt8} {t : BTok} {bs : List BTok} (h1 : isBlank c = false) (h2 : c.toNat ≠ 35) (hm : mTok (c :: q) = some (t, (c :: q).length)) (hs : Stop r) (h : Sc r bs) : Sc (c :: q ++ r) (t :: bs) := by
  refine sc_tok (n := (c :: q).length) (skip_stay h1 h2) (mTok_app hm hs) ?_
  rw [List.drop_left]; exact h
theorem sc_name {w r : List UInt8} {bs : List BTok} (h : mName w = true) (hs : Stop r) (hr : Sc r bs) : Sc (w ++ r) (⟨1, w, 0⟩ :: bs) := by
  cases w with
  | nil => cases h
  | cons c q =>
    have h0 := h
    rw [mName] at h
    simp only [Bool.and_eq_true, Bool.not_eq_true'] at h
    obtain ⟨⟨⟨_, h1⟩, h2⟩, h3⟩ := h
    obtain ⟨s1, s2⟩ := small_stay h1
    refine sc_of s1 s2 ?_ hs hr
    rw [mTok, if_pos h1, takeWhile_all h2, mWord, if_neg (by rw [h3]; decide), if_pos h0]
theorem sc_num {n : Int} {r : List UInt8} {bs : List BTok} (h : I64 n) (hs : Stop r) (hr : Sc r bs) : Sc (mNum n ++ r) (⟨3, [], n⟩ :: bs) := by
  have hp := parse_num h.1 h.2
  have hd := mDigits_dig n.natAbs
  have hne := mDigits_ne n.natAbs
  have key : ∃ c q, mNum n = c :: q ∧ (isDig c = true ∨ c.toNat = 126) ∧ q.all isDig = true := by
    unfold mNum
    split
    · exact ⟨126, _, rfl, .inr rfl, hd⟩
    · cases h : mDigits n.natAbs with
      | nil => exact absurd h hne
      | cons c q =>
        rw [h] at hd
        simp only [List.all_cons, Bool.and_eq_true] at hd
        exact ⟨c, q, rfl, .inl hd.1, hd.2⟩
  obtain ⟨c, q, e, hc, hq⟩ := key
  have hc2 : isSmall c = false ∧ isBlank c = false ∧ c.toNat ≠ 35 ∧ (isDig c || c.toNat == 126) = true := by
    rcases hc with hc | hc
    · have := (isDig_iff_ c).1 hc
      refine ⟨by simp [isSmall]; omega, by simp [isBlank]; omega, by omega, by simp [hc]⟩
    · refine ⟨by simp [isSmall, hc], by simp [isBlank, hc], by omega, by simp [hc]⟩
  have ht : mTok (mNum n) = some (⟨3, [], n⟩, (mNum n).length) := by
    rw [e, mTok, if_neg (by simp [hc2.1]), if_pos hc2.2.2.2, takeWhile_all hq, ← e, mNumber, hp]
  rw [e] at ht ⊢
  exact sc_of hc2.2.1 hc2.2.2.1 ht hs hr
theorem sc_str {t r : List UInt8} {bs : List BTok} (h : t.length ≤ 200) (hs : Stop r) (hr : Sc r bs) : Sc (mLong t ++ r) (⟨4, t, 0⟩ :: bs) := by
  have hu := mUnquote_long t h
  have htw := takeWhile_quote (t.flatMap esc) (fun x hx => by
    obtain ⟨c, _, hc⟩ := List.mem_flatMap.1 hx
    exact esc_no34 c x hc)
  have e : mLong t = 34 :: (t.flatMap esc ++ [34]) := rfl
  have ht : mTok (mLong t) = some (⟨4, t, 0⟩, (mLong t).length) := by
    rw [e, mTok, if_neg (by decide), if_neg (by decide), if_pos (by decide), mText, htw, if_pos (by simp), ← e, hu]
    simp [mLong]
  rw [e] at ht ⊢
  exact sc_of (by decide) (by decide) ht hs hr
theorem sc_truth {n : Int} {r : List UInt8} {bs : List BTok} (hs : Stop r) (hr : Sc r bs) : Sc (truthT n ++ r) (kwT (truthT n) :: bs) := by
  refine sc_word ?_ hs.bound hr
  unfold truthT
  split <;> decide
theorem sc_sg {c : UInt8} {r : List UInt8} {bs : List BTok} (hc : oneSign c = true) (h2 : ∀ d q, r = d :: q → twoSign c d = false) (h : Sc r bs) : Sc (c :: r) (sgT [c] :: bs) := by
  have key : isBlank c = false ∧ c.toNat ≠ 35 ∧ isSmall c = false ∧ (isDig c || c.toNat == 126) = false ∧ c.toNat ≠ 34 := by
    simp only [oneSign, List.contains_cons, List.contains_nil, Bool.or_eq_true, beq_iff_eq, Bool.or_false] at hc
    rcases hc with rfl | rfl | rfl | rfl | rfl | rfl | rfl | rfl | rfl | rfl | rfl | rfl | rfl | rfl | rfl <;> decide
  refine sc_tok (n := 1) (skip_stay key.1 key.2.1) ?_ h
  have hl : signLen (c :: r) = 1 := by
    cases r with
    | nil => rw [signLen]; simp [hc]
    | cons d q => rw [signLen]; simp [h2 d q rfl, hc]
  rw [mTok, if_neg (by rw [key.2.2.1]; decide), if_neg (by rw [key.2.2.2.1]; decide), if_neg key.2.2.2.2, mSign, hl]
  rfl
theorem sc_one {c : UInt8} {r : List UInt8} {bs : List BTok} (hc : c = 40 ∨ c = 41 ∨ c = 44 ∨ c = 91 ∨ c = 93 ∨ c = 95 ∨ c = 124) (h : Sc r bs) : Sc (c :: r) (sgT [c] :: bs) := by
  refine sc_sg ?_ (fun d q _ => ?_) h <;> rcases hc with rfl | rfl | rfl | rfl | rfl | rfl | rfl <;> first | decide | simp [twoSign]
theorem sc_sgs {c : UInt8} {r : List UInt8} {bs : List BTok} (hc : oneSign c = true) (h : Sc r bs) : Sc (c :: 32 :: r) (sgT [c] :: bs) := by
  refine sc_sg hc (fun d q e => ?_) (sc_blank h)
  cases e
  simp [twoSign]
theorem sc_two {c d : UInt8} {r : List UInt8} {bs : List BTok} (hc : twoSign c d = true) (h : Sc r bs) : Sc (c :: d :: r) (sgT [c, d] :: bs) := by
  have key : isBlank c = false ∧ c.toNat ≠ 35 ∧ isSmall c = false ∧ (isDig c || c.toNat == 126) = false ∧ c.toNat ≠ 34 := by
    simp only [twoSign, Bool.or_eq_true, Bool.and_eq_true, beq_iff_eq] at hc
    rcases hc with (⟨rfl, rfl⟩ | ⟨rfl, rfl⟩) | ⟨rfl, rfl⟩ <;> decide
  refine sc_tok (n := 2) (skip_stay key.1 key.2.1) ?_ h
  have hl : signLen (c :: d :: r) = 2 := by rw [signLen]; simp [hc]
  rw [mTok, if_neg (by rw [key.2.2.1]; decide), if_neg (by rw [key.2.2.2.1]; decide), if_neg key.2.2.2.2, mSign, hl]
  rfl

def Tl (ts : List Tok) (i : Nat) (bs : List BTok) : Prop := (ts.drop i).map Tok.bare = bs
section
variable {ts : List Tok} {i : Nat} {b : BTok} {p r : List BTok}
theorem tl_get (h : Tl ts i (b :: r)) : ∃ t, ts[i]? = some t ∧ t.bare = b := by
  unfold Tl at h
  cases hd : ts.drop i with
  | nil => rw [hd] at h; cases h
  | cons t q =>
    rw [hd] at h
    injection h with h1 h2
    refine ⟨t, ?_, h1⟩
    have := congrArg (fun l => l[0]?) hd
    simpa using this
theorem tl_at (h : Tl ts i (b :: r)) (k : Nat) (s : List UInt8) : at? ts i k s = (b.k == k && b.s == s) := hit_bare h
theorem tl_of (h : Tl ts i (b :: r)) (k : Nat) : of? ts i k = (b.k == k) := by
  obtain ⟨t, h1, h2⟩ := tl_get h
  subst h2
  unfold of?; rw [h1]; rfl
theorem tl_str (h : Tl ts i (b :: r)) : strE ts i = b.s := by
  obtain ⟨t, h1, h2⟩ := tl_get h
  subst h2
  unfold strE; rw [h1]; rfl
theorem tl_nbr (h : Tl ts i (b :: r)) : nbrE ts i = b.n := by
  obtain ⟨t, h1, h2⟩ := tl_get h
  subst h2
  unfold nbrE; rw [h1]; rfl
theorem tl_atN (h : Tl ts i []) (k : Nat) (s : List UInt8) : at? ts i k s = false := by
  unfold at?
  rw [List.map_eq_nil_iff.1 h]; rfl
theorem tl_ofN (h : Tl ts i []) (k : Nat) : of? ts i k = false := by
  have h1 := List.drop_eq_nil_iff.1 (List.map_eq_nil_iff.1 h)
  unfold of?; rw [List.getElem?_eq_none h1]
theorem tl_app (h : Tl ts i (p ++ r)) : Tl ts (i + p.length) r := by
  have := map_drop h
  rwa [List.drop_drop] at this
theorem tl_tail (h : Tl ts i (b :: r)) : Tl ts (i + 1) r := tl_app (p := [b]) h
theorem tl_len (h : Tl ts i (b :: r)) : i < ts.length := by
  obtain ⟨t, h1, _⟩ := tl_get h
  exact (List.getElem?_eq_some_iff.1 h1).1
end

abbrev rnP (seen : List (List UInt8)) (p : Pa) : Bool × List (List UInt8) := runL contP stepP seen p.list
theorem run_leaf {k a b : Int} {nm : List UInt8} {n : Int} {s : List UInt8} {seen : List (List UInt8)} (hk : k ≠ 2) : (rnP seen (.mk k a b nm n s [])).2 = seen := by
  unfold rnP
  rw [Pa.list, pasList, runL]
  have h : stepP seen (.mk k a b nm n s []) = seen := by
    unfold stepP
    rw [if_neg (by rw [show (Pa.mk k a b nm n s []).kind = k from rfl]; simp [hk])]
  split <;> rw [h] <;> rfl
theorem run_name {a b : Int} {nm : List UInt8} {seen : List (List UInt8)} (h : (rnP seen (.mk 2 a b nm 0 [] [])).1 = true) : seen.contains nm = false ∧ (rnP seen (.mk 2 a b nm 0 [] [])).2 = seen ++ [nm] := by
  unfold rnP at h ⊢
  rw [Pa.list, pasList, runL] at h ⊢
  have e1 : (Pa.mk 2 a b nm 0 [] []).kind = 2 := rfl
  have e2 : (Pa.mk 2 a b nm 0 [] []).nm = nm := rfl
  cases hc : contP seen (.mk 2 a b nm 0 [] []) with
  | false => rw [hc] at h; cases h
  | true =>
    have hs : stepP seen (.mk 2 a b nm 0 [] []) = seen ++ [nm] := by unfold stepP; rw [hc, e1, e2]; rfl
    refine ⟨?_, by simp only []; rw [hs]; rfl⟩
    unfold contP at hc
    rw [e1, e2] at hc
    simp at hc
    simpa using hc.2
theorem run_two {k a b : Int} {x y : Pa} {seen : List (List UInt8)} (hk : k ≠ 2) (h : (rnP seen (.mk k a b [] 0 [] [x, y])).1 = true) :
    (rnP seen x).1 = true ∧ (rnP (rnP seen x).2 y).1 = true ∧ (rnP seen (.mk k a b [] 0 [] [x, y])).2 = (rnP (rnP seen x).2 y).2 := by
  unfold rnP at h ⊢
  rw [Pa.list, pasList, pasList, pasList, List.append_nil, runL] at h ⊢
  have e1 : (Pa.mk k a b [] 0 [] [x, y]).kind = k := rfl
  have hs : stepP seen (.mk k a b [] 0 [] [x, y]) = seen := by
    unfold stepP
    rw [if_neg (by rw [e1]; simp [hk])]
  cases hc : contP seen (.mk k a b [] 0 [] [x, y]) with
  | false => rw [hc] at h; cases h
  | true =>
    rw [hc] at h
    simp only [hs] at h ⊢
    rw [runL_append] at h ⊢
    rcases hx : runL contP stepP seen x.list with ⟨_ | _, s1⟩
    · rw [hx] at h; cases h
    · rw [hx] at h
      exact ⟨rfl, h, rfl⟩
def NoC (rb : List BTok) : Prop := ∀ b r, rb = b :: r → (b.k == 5 && b.s == [58, 58]) = false
theorem noC_at {ts : List Tok} {i : Nat} {rb : List BTok} (h : Tl ts i rb) (hn : NoC rb) : at? ts i 5 [58, 58] = false := by
  cases rb with
  | nil => exact tl_atN h _ _
  | cons b r => rw [tl_at h]; exact hn b r rfl
def ReadP (bs : List BTok) (p : Pa) : Prop := ∀ (ts : List Tok) (f : Nat) (seen : List (List UInt8)) (i : Nat) (rb : List BTok), Tl ts i (bs ++ rb) → NoC rb → bs.length ≤ f → (rnP seen p).1 = true → ∃ p', qPatF ts f seen i = .ok ((p', (rnP seen p).2), i + bs.length) ∧ p'.nude = p.nude
def ReadQ (bs : List BTok) (p : Pa) : Prop := ∀ (ts : List Tok) (f : Nat) (seen : List (List UInt8)) (i : Nat) (rb : List BTok), Tl ts i (bs ++ rb) → bs.length ≤ f + 1 → (rnP seen p).1 = true → ∃ p', qPop ts (qPatF ts f) seen i = .ok ((p', (rnP seen p).2), i + bs.length) ∧ p'.nude = p.nude
def Opn (bs : List BTok) : Prop := ∃ b r, bs = b :: r ∧ (b.k == 5 && b.s == [41]) = false
def ScB (x : List UInt8) (bs : List BTok) : Prop := ∀ r cs, Stop r → Sc r cs → Sc (x ++ r) (bs ++ cs)
theorem readP_of {bs : List BTok} {p : Pa} (ho : Opn bs) (h : ReadQ bs p) : ReadP bs p := by
  intro ts f seen i rb ht hn hf hr
  obtain ⟨b, r, rfl, _⟩ := ho
  cases f with
  | zero => cases hf
  | succ f =>
    obtain ⟨p', h1, h2⟩ := h ts f seen i rb ht hf hr
    refine ⟨p', ?_, h2⟩
    rw [qPatF, h1]
    simp only []
    rw [noC_at (tl_app ht) hn]
    rfl
def GoodQ (p : Pa) : Prop := ∃ bs, Opn bs ∧ ScB (kidT p.kind (xPat p)) bs ∧ ReadQ bs p
def GoodP (p : Pa) : Prop := ∃ bs, Opn bs ∧ ScB (xPat p) bs ∧ ReadP bs p
theorem goodP_of {p : Pa} (hk : p.kind ≠ 9) (h : GoodQ p) : GoodP p := by
  obtain ⟨bs, h1, h2, h3⟩ := h
  rw [kidT, if_neg hk] at h2
  exact ⟨bs, h1, h2, readP_of h1 h3⟩
theorem goodQ_of {p : Pa} (hk : p.kind = 9) (h : GoodP p) : GoodQ p := by
  obtain ⟨bs, ⟨b, r, hb, hb1⟩, h2, h3⟩ := h
  refine ⟨[sgT [40]] ++ bs ++ [sgT [41]], ⟨_, _, rfl, rfl⟩, ?_, ?_⟩
  · intro q cs hs hc
    rw [kidT, if_pos hk]
    have := sc_one (c := 40) (.inl rfl) (h2 (41 :: q) (sgT [41] :: cs) (stop_sg (.inl rfl)) (sc_one (.inr (.inl rfl)) hc))
    simpa using this
  · intro ts f seen i rb ht hf hr
    have t1 : Tl ts i (sgT [40] :: (bs ++ (sgT [41] :: rb))) := by simpa using ht
    have t2 := tl_tail t1
    have t3 := tl_app t2
    have t2' : Tl ts (i + 1) (b :: (r ++ (sgT [41] :: rb))) := by rw [hb] at t2; exact t2
    obtain ⟨p', h4, h5⟩ := h3 ts f seen (i + 1) (sgT [41] :: rb) t2 (fun b r e => by cases e; rfl) (by simp only [List.length_append, List.length_cons, List.length_nil] at hf; omega) hr
    refine ⟨p', ?_, h5⟩
    unfold qPop qRound qRing
    simp only [tl_at t1, tl_of t1, tl_at t2', hb1, h4, tl_at t3]
    simp [Nat.add_assoc]; omega
theorem good_pat {p : Pa} (h : RPa p) : GoodP p ∧ GoodQ p := by
  have leaf : ∀ {k a b : Int} {nm : List UInt8} {n : Int} {s : List UInt8}, k ≠ 9 → GoodQ (.mk k a b nm n s []) → GoodP (.mk k a b nm n s []) ∧ GoodQ (.mk k a b nm n s []) := fun hk h => ⟨goodP_of hk h, h⟩
  induction h with
  | any a b =>
    refine leaf (by decide) ⟨[sgT [95]], ⟨_, _, rfl, rfl⟩, fun r cs hs hc => sc_one (by simp) hc, fun ts f seen i rb ht hf hr => ?_⟩
    rw [run_leaf (by decide)]
    exact ⟨qLeafP ts 1 i [] 0 [], by unfold qPop; rw [tl_at ht]; rfl, rfl⟩
  | name a b s hs =>
    refine leaf (by decide) ⟨[⟨1, s, 0⟩], ⟨_, _, rfl, rfl⟩, fun r cs hst hc => ?_, fun ts f seen i rb ht hf hr => ?_⟩
    · have : xPat (.mk 2 a b s 0 [] []) = s := by rw [xPat]; rfl
      rw [this]
      exact sc_name hs hst hc
    · obtain ⟨h1, h2⟩ := run_name hr
      rw [h2]
      exact ⟨qLeafP ts 2 i s 0 [], by unfold qPop; rw [tl_at ht, tl_of ht, tl_str ht, h1]; rfl, rfl⟩
  | int a b n hn =>
    refine leaf (by decide) ⟨[⟨3, [], n⟩], ⟨_, _, rfl, rfl⟩, fun r cs hst hc => ?_, fun ts f seen i rb ht hf hr => ?_⟩
    · have : xPat (.mk 3 a b [] n [] []) = mNum n := by rw [xPat]; rfl
      rw [this]
      exact sc_num hn hst hc
    · rw [run_leaf (by decide)]
      exact ⟨qLeafP ts 3 i [] n [], by unfold qPop; rw [tl_at ht, tl_of ht, tl_of ht, tl_nbr ht]; rfl, rfl⟩
  | bool a b n hn =>
    refine leaf (by decide) ⟨[kwT (truthT n)], ⟨_, _, rfl, rfl⟩, fun r cs hst hc => ?_, fun ts f seen i rb ht hf hr => ?_⟩
    · have : xPat (.mk 4 a b [] n [] []) = truthT n := by rw [xPat]; rfl
      rw [this]
      exact sc_truth hst hc
    · rw [run_leaf (by decide)]
      rcases hn with rfl | rfl
      · exact ⟨qLeafP ts 4 i [] 0 [], by unfold qPop; rw [tl_at ht, tl_of ht, tl_of ht, tl_of ht, tl_at ht, tl_at ht]; rfl, rfl⟩
      · exact ⟨qLeafP ts 4 i [] 1 [], by unfold qPop; rw [tl_at ht, tl_of ht, tl_of ht, tl_of ht, tl_at ht]; rfl, rfl⟩
  | str a b s hs =>
    refine leaf (by decide) ⟨[⟨4, s, 0⟩], ⟨_, _, rfl, rfl⟩, fun r cs hst hc => ?_, fun ts f seen i rb ht hf hr => ?_⟩
    · have : xPat (.mk 5 a b [] 0 s [] ) = mLong s := by rw [xPat]; rfl
      rw [this]
      exact sc_str hs hst hc
    · rw [run_leaf (by decide)]
      exact ⟨qLeafP ts 5 i [] 0 s, by unfold qPop; rw [tl_at ht, tl_of ht, tl_of ht, tl_of ht, tl_str ht]; rfl, rfl⟩
  | unit a b =>
    refine leaf (by decide) ⟨[sgT [40], sgT [41]], ⟨_, _, rfl, rfl⟩, fun r cs hst hc => sc_one (by simp) (sc_one (by simp) hc), fun ts f seen i rb ht hf hr => ?_⟩
    rw [run_leaf (by decide)]
    have t2 := tl_tail ht
    exact ⟨.mk 6 (frE ts i) (behE ts (i + 1 + 1)) [] 0 [] [], by unfold qPop qRound qRing; simp only [tl_at ht, tl_of ht, tl_at t2]; rfl, rfl⟩
  | nil a b =>
    refine leaf (by decide) ⟨[sgT [91], sgT [93]], ⟨_, _, rfl, rfl⟩, fun r cs hst hc => sc_one (by simp) (sc_one (by simp) hc), fun ts f seen i rb ht hf hr => ?_⟩
    rw [run_leaf (by decide)]
    have t2 := tl_tail ht
    exact ⟨.mk 8 (frE ts i) (behE ts (i + 1 + 1)) [] 0 [] [], by unfold qPop qRound; simp only [tl_at ht, tl_of ht, tl_at t2]; rfl, rfl⟩
  | pair a b x y hx hy ihx ihy =>
    obtain ⟨bx, ⟨b1, r1, rfl, ob⟩, sx, rx⟩ := ihx.1
    obtain ⟨bY, oy, sy, ry⟩ := ihy.1
    have hq : GoodQ (.mk 7 a b [] 0 [] [x, y]) := by
      refine ⟨sgT [40] :: ((b1 :: r1) ++ (sgT [44] :: (bY ++ [sgT [41]]))), ⟨_, _, rfl, rfl⟩, ?_, ?_⟩
      · intro r cs hst hc
        have e : kidT (Pa.mk 7 a b [] 0 [] [x, y]).kind (xPat (.mk 7 a b [] 0 [] [x, y])) = 40 :: (xPat x ++ [44, 32] ++ xPat y ++ [41]) := by
          rw [kidT, if_neg (by show ¬ (7 : Int) = 9; decide), xPat, xPs, xPs, xPs]; rfl
        rw [e]
        have := sc_one (c := 40) (.inl rfl) (sx (44 :: 32 :: (xPat y ++ (41 :: r))) _ (stop_sg (.inr rfl)) (sc_one (by simp) (sc_blank (sy (41 :: r) _ (stop_sg (.inl rfl)) (sc_one (by simp) hc)))))
        simpa using this
      · intro ts f seen i rb ht hf hr
        obtain ⟨q1, q2, q3⟩ := run_two (by decide) hr
        rw [q3]
        have t1 : Tl ts i (sgT [40] :: (b1 :: r1 ++ (sgT [44] :: (bY ++ (sgT [41] :: rb))))) := by simpa using ht
        have t2 := tl_tail t1
        have t3 := tl_app t2
        have t4 := tl_tail t3
        have t5 := tl_app t4
        simp only [List.length_append, List.length_cons, List.length_nil] at hf
        obtain ⟨x', e1, e2⟩ := rx ts f seen (i + 1) _ t2 (fun b r e => by cases e; rfl) (by simp only [List.length_cons]; omega) q1
        obtain ⟨y', e3, e4⟩ := ry ts f (rnP seen x).2 _ _ t4 (fun b r e => by cases e; rfl) (by omega) q2
        refine ⟨.mk 7 (frE ts i) (behE ts (i + 1 + (b1 :: r1).length + 1 + bY.length + 1)) [] 0 [] [x', y'], ?_, by simp [Pa.nude, pasNude, e2, e4]⟩
        unfold qPop qRound qRing
        simp only [tl_at t1, tl_of t1, tl_at (show Tl ts (i + 1) (b1 :: _) from t2), ob, e1, tl_at t3, e3, tl_at t5]
        simp [Nat.add_assoc]; omega
    exact ⟨goodP_of (by show ¬ (7 : Int) = 9; decide) hq, hq⟩
  | cons a b x y hx hy ihx ihy =>
    obtain ⟨bx, ox, sx, rx⟩ := ihx.2
    obtain ⟨bY, oy, sy, ry0⟩ := ihy.2
    have ry := readP_of oy ry0
    have hp : GoodP (.mk 9 a b [] 0 [] [x, y]) := by
      refine ⟨bx ++ (sgT [58, 58] :: bY), ?_, ?_, ?_⟩
      · obtain ⟨b1, r1, rfl, ob⟩ := ox
        exact ⟨_, _, rfl, ob⟩
      · intro r cs hst hc
        have e : xPat (.mk 9 a b [] 0 [] [x, y]) = kidT x.kind (xPat x) ++ [32, 58, 58, 32] ++ kidT y.kind (xPat y) := by
          rw [xPat, xPs, xPs, xPs]; rfl
        rw [e]
        have := sx (32 :: 58 :: 58 :: 32 :: (kidT y.kind (xPat y) ++ r)) _ stop_sp (sc_blank (sc_two (by decide) (sc_blank (sy r _ hst hc))))
        simpa using this
      · intro ts f seen i rb ht hn hf hr
        obtain ⟨q1, q2, q3⟩ := run_two (by decide) hr
        rw [q3]
        have t1 : Tl ts i (bx ++ (sgT [58, 58] :: (bY ++ rb))) := by simpa using ht
        have t3 := tl_app t1
        have t4 := tl_tail t3
        simp only [List.length_append, List.length_cons] at hf
        cases f with
        | zero => omega
        | succ f =>
          obtain ⟨x', e1, e2⟩ := rx ts f seen i _ t1 (by omega) q1
          obtain ⟨y', e3, e4⟩ := ry ts f (rnP seen x).2 _ _ t4 hn (by obtain ⟨b1, r1, rfl, _⟩ := ox; simp only [List.length_cons] at hf; omega) q2
          refine ⟨.mk 9 x'.fr y'.to [] 0 [] [x', y'], ?_, by simp [Pa.nude, pasNude, e2, e4]⟩
          rw [qPatF, e1]
          simp only [tl_at t3, e3]
          simp [Nat.add_assoc]; omega
    exact ⟨hp, goodQ_of rfl hp⟩

end Go.Proofs.YtlagglkpbnbmeaaGreatDoor

/- The plain law of layer 7: the tokens of an expression's text, and what is read among them: the expression, but for places. No program in sight. -/
namespace Go.Proofs.YtlagglkpbnbmeaaGreatDoor
set_option linter.unusedVariables false
set_option linter.unusedSimpArgs false

def isS (s : List UInt8) : List BTok → Bool
  | [] => false
  | b :: _ => b.k == 5 && b.s == s
def begB (b : BTok) : Bool := b.k == 1 || b.k == 3 || b.k == 4 || (b.k == 2 && b.s == [116, 114, 117, 101]) || (b.k == 2 && b.s == [102, 97, 108, 115, 101]) || (b.k == 5 && b.s == [40]) || (b.k == 5 && b.s == [91])
def bg : List BTok → Bool
  | [] => false
  | b :: _ => begB b
structure E2 (rb : List BTok) : Prop where
  h0 : bg rb = false
  h1 : isS [42] rb = false
  h2 : isS [47] rb = false
structure E3 (rb : List BTok) : Prop extends E2 rb where
  h3 : isS [43] rb = false
  h4 : isS [45] rb = false
structure E4 (rb : List BTok) : Prop extends E3 rb where
  h5 : isS [58, 58] rb = false
structure E5 (rb : List BTok) : Prop extends E4 rb where
  h6 : isS [60] rb = false
  h7 : isS [61] rb = false
  h8 : isS [61, 61] rb = false
theorem e5_nil : E5 [] := ⟨⟨⟨⟨rfl, rfl, rfl⟩, rfl, rfl⟩, rfl⟩, rfl, rfl, rfl⟩
theorem e5_sg {s : List UInt8} {r : List BTok} (h : s = [41] ∨ s = [44] ∨ s = [58] ∨ s = [124]) : E5 (sgT s :: r) := by
  rcases h with rfl | rfl | rfl | rfl <;> exact ⟨⟨⟨⟨rfl, rfl, rfl⟩, rfl, rfl⟩, rfl⟩, rfl, rfl, rfl⟩
theorem e5_kw {s : List UInt8} {r : List BTok} (h : (s == [116, 114, 117, 101]) = false ∧ (s == [102, 97, 108, 115, 101]) = false) : E5 (kwT s :: r) := by
  refine ⟨⟨⟨⟨?_, rfl, rfl⟩, rfl, rfl⟩, rfl⟩, rfl, rfl, rfl⟩
  show begB (kwT s) = false
  unfold begB
  rw [show (kwT s).s = s from rfl, h.1, h.2]; rfl
section
variable {ts : List Tok} {i j k : Nat} {rb r : List BTok} {b : BTok}
theorem at_is (h : Tl ts i rb) (s : List UInt8) : at? ts i 5 s = isS s rb := by
  cases rb with
  | nil => exact tl_atN h _ _
  | cons b r => exact tl_at h _ _
theorem beg_bg (h : Tl ts i rb) : eBegins ts i = bg rb := by
  cases rb with
  | nil => unfold eBegins; simp only [tl_atN h, tl_ofN h]; rfl
  | cons b r => unfold eBegins; simp only [tl_at h, tl_of h]; rfl
theorem lenS (h : Tl ts i (b :: r)) : ∃ n, ts.length = n + 1 := ⟨ts.length - 1, by have := tl_len h; omega⟩
variable {ex : Nat → QR Ex} {x y : Ex}
theorem app_of (h : qAtom ts ex i = .ok (x, j)) (ht : Tl ts j rb) (hb : bg rb = false) : qApp ts ex i = .ok (x, j) := by
  unfold qApp; rw [h]; simp only []; rw [qAppL, beg_bg ht, hb]; rfl
theorem app_two {n : Nat} (hn : ts.length = n + 1) (h : qAtom ts ex i = .ok (x, j)) (h1 : eBegins ts j = true) (h2 : qAtom ts ex j = .ok (y, k)) (ht : Tl ts k rb) (hb : bg rb = false) : qApp ts ex i = .ok (eTwo 10 0 x y, k) := by
  unfold qApp; rw [h]; simp only []; rw [qAppL, h1, if_pos rfl, h2]; simp only []; rw [hn, qAppL, beg_bg ht, hb]; rfl
theorem eprod_of (h : qApp ts ex i = .ok (x, j)) (ht : Tl ts j rb) (h1 : isS [42] rb = false) (h2 : isS [47] rb = false) : qProd ts ex i = .ok (x, j) := by
  unfold qProd; rw [h]; simp only []; rw [qProdL, at_is ht, at_is ht, h1, h2]; rfl
theorem eprod_two {n : Nat} {s : List UInt8} {op : Int} (hs : s = [42] ∧ op = 3 ∨ s = [47] ∧ op = 4) (hn : ts.length = n + 1) (h : qApp ts ex i = .ok (x, j)) (h1 : Tl ts j (sgT s :: r)) (h2 : qApp ts ex (j + 1) = .ok (y, k)) (ht : Tl ts k rb) (h3 : isS [42] rb = false) (h4 : isS [47] rb = false) : qProd ts ex i = .ok (eTwo 16 op x y, k) := by
  unfold qProd; rw [h]; simp only []; rw [qProdL, tl_at h1, tl_at h1, h2]
  rcases hs with ⟨rfl, rfl⟩ | ⟨rfl, rfl⟩
  · show qProdL ts ex ts.length _ k = _
    rw [hn, qProdL, at_is ht, at_is ht, h3, h4]; rfl
  · show qProdL ts ex ts.length _ k = _
    rw [hn, qProdL, at_is ht, at_is ht, h3, h4]; rfl
theorem sum_of (h : qProd ts ex i = .ok (x, j)) (ht : Tl ts j rb) (h1 : isS [43] rb = false) (h2 : isS [45] rb = false) : qSum ts ex i = .ok (x, j) := by
  unfold qSum; rw [h]; simp only []; rw [qSumL, at_is ht, at_is ht, h1, h2]; rfl
theorem sum_two {n : Nat} {s : List UInt8} {op : Int} (hs : s = [43] ∧ op = 1 ∨ s = [45] ∧ op = 2) (hn : ts.length = n + 1) (h : qProd ts ex i = .ok (x, j)) (h1 : Tl ts j (sgT s :: r)) (h2 : qProd ts ex (j + 1) = .ok (y, k)) (ht : Tl ts k rb) (h3 : isS [43] rb = false) (h4 : isS [45] rb = false) : qSum ts ex i = .ok (eTwo 16 op x y, k) := by
  unfold qSum; rw [h]; simp only []; rw [qSumL, tl_at h1, tl_at h1, h2]
  rcases hs with ⟨rfl, rfl⟩ | ⟨rfl, rfl⟩
  · show qSumL ts ex ts.length _ k = _
    rw [hn, qSumL, at_is ht, at_is ht, h3, h4]; rfl
  · show qSumL ts ex ts.length _ k = _
    rw [hn, qSumL, at_is ht, at_is ht, h3, h4]; rfl
theorem cons_of (h : qSum ts ex i = .ok (x, j)) (ht : Tl ts j rb) (h1 : isS [58, 58] rb = false) : ∀ n, qConsF ts ex (n + 1) i = .ok (x, j) := by
  intro n; rw [qConsF, h]; simp only []; rw [at_is ht, h1]; rfl
theorem cons_two {n : Nat} (h : qSum ts ex i = .ok (x, j)) (h1 : Tl ts j (sgT [58, 58] :: r)) (h2 : qConsF ts ex n (j + 1) = .ok (y, k)) : qConsF ts ex (n + 1) i = .ok (eTwo 8 0 x y, k) := by
  rw [qConsF, h]; simp only []; rw [tl_at h1, h2]; rfl
theorem cmp_of (h : qCons ts ex i = .ok (x, j)) (ht : Tl ts j rb) (h1 : isS [60] rb = false) (h2 : isS [61] rb = false) (h3 : isS [61, 61] rb = false) : qCmp ts ex i = .ok (x, j) := by
  unfold qCmp; rw [h]; simp only []; rw [at_is ht, at_is ht, at_is ht, h1, h2, h3]; rfl
theorem cmp_two {s : List UInt8} {op : Int} (hs : s = [60] ∧ op = 5 ∨ s = [61] ∧ op = 6 ∨ s = [61, 61] ∧ op = 7) (h : qCons ts ex i = .ok (x, j)) (h1 : Tl ts j (sgT s :: r)) (h2 : qCons ts ex (j + 1) = .ok (y, k)) : qCmp ts ex i = .ok (eTwo 16 op x y, k) := by
  unfold qCmp; rw [h]; simp only []; rw [tl_at h1, tl_at h1, tl_at h1, h2]
  rcases hs with ⟨rfl, rfl⟩ | ⟨rfl, rfl⟩ | ⟨rfl, rfl⟩ <;> rfl
theorem begB_cl (h : begB b = true) : (b.k == 5 && b.s == [41]) = false := by
  cases hb : (b.k == 5 && b.s == [41]) with
  | false => rfl
  | true =>
    simp only [Bool.and_eq_true, beq_iff_eq] at hb
    unfold begB at h
    rw [hb.1, hb.2] at h
    cases h
theorem top_cmp {f : Nat} (h : Tl ts i (b :: r)) (hb : begB b = true) : qExprF ts (f + 1) i = qCmp ts (qExprF ts f) i := by
  have no : ∀ s, mKey s = true → (s == [116, 114, 117, 101]) = false → (s == [102, 97, 108, 115, 101]) = false → at? ts i 2 s = false := by
    intro s _ h1 h2
    rw [tl_at h]
    cases hc : (b.k == 2 && b.s == s) with
    | false => rfl
    | true =>
      simp only [Bool.and_eq_true, beq_iff_eq] at hc
      unfold begB at hb
      rw [hc.1, hc.2, h1, h2] at hb
      cases hb
  rw [qExprF, no _ (by decide) rfl rfl, no _ (by decide) rfl rfl, no _ (by decide) rfl rfl, no _ (by decide) rfl rfl]; rfl
theorem leaf_no {s : List UInt8} (h : Tl ts i (sgT s :: r)) : qLeaf ts i = .error (i, i) := by
  unfold qLeaf; simp only [tl_of h, tl_at h]; rfl
end
def ReadE (bs : List BTok) (e : Ex) : Prop := ∀ (ts : List Tok) (f i : Nat) (rb : List BTok), Tl ts i (bs ++ rb) → E5 rb → bs.length ≤ f → ∃ e', qExprF ts f i = .ok (e', i + bs.length) ∧ e'.nude = e.nude
def ReadA (bs : List BTok) (e : Ex) : Prop := ∀ (ts : List Tok) (f i : Nat) (rb : List BTok), Tl ts i (bs ++ rb) → bs.length ≤ f + 1 → ∃ e', qAtom ts (qExprF ts f) i = .ok (e', i + bs.length) ∧ e'.nude = e.nude
def GoodE (e : Ex) : Prop := ∃ bs, Opn bs ∧ ScB (xEx e) bs ∧ ReadE bs e
def GoodA (e : Ex) : Prop := ∃ bs, (∃ b r, bs = b :: r ∧ begB b = true) ∧ ScB (qT e.kind (xEx e)) bs ∧ ReadA bs e
theorem goodE_of {e : Ex} (hq : qT e.kind (xEx e) = xEx e) (h : GoodA e) : GoodE e := by
  obtain ⟨bs, ⟨b, r, rfl, hb⟩, h2, h3⟩ := h
  rw [hq] at h2
  refine ⟨_, ⟨b, r, rfl, begB_cl hb⟩, h2, ?_⟩
  intro ts f i rb ht he hf
  cases f with
  | zero => cases hf
  | succ f =>
    obtain ⟨e', h4, h5⟩ := h3 ts f i rb ht hf
    have t2 := tl_app ht
    refine ⟨e', ?_, h5⟩
    rw [top_cmp (show Tl ts i (b :: (r ++ rb)) from ht) hb]
    exact cmp_of (cons_of (sum_of (eprod_of (app_of h4 t2 he.h0) t2 he.h1 he.h2) t2 he.h3 he.h4) t2 he.h5 _) t2 he.h6 he.h7 he.h8
theorem goodA_of {e : Ex} (hq : qT e.kind (xEx e) = 40 :: (xEx e ++ [41])) (h : GoodE e) : GoodA e := by
  obtain ⟨bs, ⟨b, r, hb, hb1⟩, h2, h3⟩ := h
  refine ⟨sgT [40] :: (bs ++ [sgT [41]]), ⟨_, _, rfl, rfl⟩, ?_, ?_⟩
  · intro q cs hs hc
    rw [hq]
    have := sc_one (c := 40) (.inl rfl) (h2 (41 :: q) (sgT [41] :: cs) (stop_sg (.inl rfl)) (sc_one (.inr (.inl rfl)) hc))
    simpa using this
  · intro ts f i rb ht hf
    have t1 : Tl ts i (sgT [40] :: (bs ++ (sgT [41] :: rb))) := by simpa using ht
    have t2 := tl_tail t1
    have t3 := tl_app t2
    have t2' : Tl ts (i + 1) (b :: (r ++ (sgT [41] :: rb))) := by rw [hb] at t2; exact t2
    obtain ⟨e', h4, h5⟩ := h3 ts f (i + 1) _ t2 (e5_sg (.inl rfl)) (by simp only [List.length_append, List.length_cons, List.length_nil] at hf; omega)
    refine ⟨e', ?_, h5⟩
    unfold qAtom qRnd qParen
    simp only [leaf_no t1, tl_at t1, tl_at t2', hb1, h4, tl_at t3]
    simp [Nat.add_assoc]; omega
theorem xExs_two (x y : Ex) : xExs [x, y] = [(xEx x, qT x.kind (xEx x)), (xEx y, qT y.kind (xEx y))] := by rw [xExs, xExs, xExs]
theorem good_two {e x y : Ex} {t : List UInt8} {s : List BTok} (hx : GoodA x) (hy : GoodA y) (hxe : xEx e = qT x.kind (xEx x) ++ t ++ qT y.kind (xEx y)) (hs : ∀ r cs, Sc r cs → Sc (t ++ r) (s ++ cs)) (ht : ∀ r, Stop (t ++ r))
    (hr : ∀ (ts : List Tok) (f i j k : Nat) (x' y' : Ex) (rb r : List BTok), E5 rb → (∃ n, ts.length = n + 1) → qAtom ts (qExprF ts f) i = .ok (x', j) → Tl ts j (s ++ r) → bg r = true → qAtom ts (qExprF ts f) (j + s.length) = .ok (y', k) → Tl ts k rb → x'.nude = x.nude → y'.nude = y.nude →
      ∃ e', qCmp ts (qExprF ts f) i = .ok (e', k) ∧ e'.nude = e.nude) : GoodE e := by
  obtain ⟨bx, ⟨b1, r1, rfl, ob⟩, sx, rx⟩ := hx
  obtain ⟨bY, ⟨b2, r2, rfl, ob2⟩, sy, ry⟩ := hy
  refine ⟨(b1 :: r1) ++ (s ++ (b2 :: r2)), ⟨_, _, rfl, begB_cl ob⟩, ?_, ?_⟩
  · intro r cs hst hc
    rw [hxe]
    have := sx (t ++ (qT y.kind (xEx y) ++ r)) _ (ht _) (hs _ _ (sy r cs hst hc))
    simpa using this
  · intro ts f i rb hl he hf
    cases f with
    | zero => cases hf
    | succ f =>
      have t1 : Tl ts i ((b1 :: r1) ++ (s ++ ((b2 :: r2) ++ rb))) := by simpa using hl
      have t2 := tl_app t1
      have t3 := tl_app t2
      have t4 := tl_app t3
      simp only [List.length_append, List.length_cons] at hf
      obtain ⟨x', e1, e2⟩ := rx ts f i _ t1 (by simp only [List.length_cons]; omega)
      obtain ⟨y', e3, e4⟩ := ry ts f _ _ t3 (by simp only [List.length_cons]; omega)
      obtain ⟨e', e5, e6⟩ := hr ts f i _ _ x' y' rb _ he (lenS (show Tl ts i (b1 :: _) from t1)) e1 t2 ob2 e3 t4 e2 e4
      refine ⟨e', ?_, e6⟩
      rw [top_cmp (show Tl ts i (b1 :: _) from t1) ob, e5]
      simp [Nat.add_assoc]; omega

theorem noGo_sg {s : List UInt8} {r : List BTok} (h : s = [41] ∨ s = [61]) : NoGo (sgT s :: r) := by
  intro b q e
  cases e
  rcases h with rfl | rfl <;> exact ⟨rfl, rfl, rfl⟩
theorem rd_typ {ts : List Tok} {i : Nat} {A : Ty} {rb : List BTok} (h : ClosedTy A) (ht : Tl ts i (bTxt A ++ rb)) (hn : NoGo rb) (hi : i ≤ ts.length) : qTyp ts i = .ok (A, i + (bTxt A).length) := by
  have h1 := read_at h (ts.take i) (ts.drop i) ht hn
  rw [List.take_append_drop, List.length_take, Nat.min_eq_left hi] at h1
  unfold qTyp
  rw [h1]
  simp only [if_true, Int.toNat_natCast]
theorem good_par {s : List UInt8} {A : Ty} (hs : mName s = true) (hA : Ann A) : ∃ bs, (∃ b r, bs = b :: r ∧ (b.k == 2) = false) ∧ ScB (paramT s A) bs ∧ ∀ ts i rb, Tl ts i (bs ++ rb) → qParam ts i = .ok ((s, A), i + bs.length) := by
  rcases hA with rfl | hA
  · refine ⟨[⟨1, s, 0⟩], ⟨_, _, rfl, rfl⟩, fun r cs hst hc => sc_name hs hst hc, fun ts i rb ht => ?_⟩
    unfold qParam qName
    simp only [tl_at ht, tl_of ht, tl_str ht]
    rfl
  · refine ⟨sgT [40] :: ⟨1, s, 0⟩ :: sgT [58] :: (bTxt A ++ [sgT [41]]), ⟨_, _, rfl, rfl⟩, ?_, ?_⟩
    · intro r cs hst hc
      rw [paramT, if_neg (closed_kind hA)]
      have := sc_one (c := 40) (.inl rfl) (sc_name hs (r := 32 :: 58 :: 32 :: (mTxt A ++ (41 :: r))) stop_sp (sc_blank (sc_sgs (by decide) (sc_txt hA (41 :: r) _ (bound_cons (by decide)) (sc_one (.inr (.inl rfl)) hc)))))
      simpa using this
    · intro ts i rb ht
      have t1 : Tl ts i (sgT [40] :: ⟨1, s, 0⟩ :: sgT [58] :: (bTxt A ++ (sgT [41] :: rb))) := by simpa using ht
      have t2 := tl_tail t1
      have t3 := tl_tail t2
      have t4 := tl_tail t3
      have t5 := tl_app t4
      have h1 := rd_typ hA t4 (noGo_sg (.inl rfl)) (by have := tl_len t3; omega)
      unfold qParam qName
      simp only [tl_at t1, tl_of t2, tl_str t2, tl_at t3, h1, tl_at t5, beq_self_eq_true, Bool.and_self, if_true]
      simp [Nat.add_assoc]; omega
theorem good_sort {A : Ty} (hA : Ann A) : ∃ bs, ScB (sortT A) bs ∧ (∀ r, Stop r → Stop (sortT A ++ r)) ∧ ∀ ts i r, Tl ts i (bs ++ (sgT [61] :: r)) → qMaybe ts i = .ok (A, i + bs.length) := by
  rcases hA with rfl | hA
  · refine ⟨[], fun r cs hst hc => hc, fun r h => h, fun ts i r ht => ?_⟩
    unfold qMaybe
    rw [tl_at ht]; rfl
  · have e : sortT A = [32, 58, 32] ++ mTxt A := by rw [sortT, if_neg (closed_kind hA)]
    refine ⟨sgT [58] :: bTxt A, fun r cs hst hc => ?_, fun r h => by rw [e]; exact stop_sp, fun ts i r ht => ?_⟩
    · rw [e]
      have := sc_blank (sc_sgs (c := 58) (by decide) (sc_txt hA r _ hst.bound hc))
      simpa using this
    · have t1 : Tl ts i (sgT [58] :: (bTxt A ++ (sgT [61] :: r))) := ht
      have h1 := rd_typ hA (tl_tail t1) (noGo_sg (.inr rfl)) (by have := tl_len t1; omega)
      unfold qMaybe
      rw [tl_at t1, h1]
      simp [Nat.add_assoc]; omega
theorem good_body {x y : Ex} (hx : GoodE x) (hy : GoodE y) : ∃ bs, ScB ([32, 61, 32] ++ xEx x ++ [32, 105, 110, 32] ++ xEx y) (sgT [61] :: bs) ∧ ∀ (ts : List Tok) (f i : Nat) (rb : List BTok), Tl ts i (sgT [61] :: (bs ++ rb)) → E5 rb → bs.length ≤ f → ∃ x' y', qBody ts (qExprF ts f) i = .ok ((x', y'), i + 1 + bs.length) ∧ x'.nude = x.nude ∧ y'.nude = y.nude := by
  obtain ⟨bx, _, sx, rx⟩ := hx
  obtain ⟨bY, _, sy, ry⟩ := hy
  refine ⟨bx ++ (kwT [105, 110] :: bY), ?_, ?_⟩
  · intro r cs hst hc
    have := sc_blank (sc_sgs (c := 61) (by decide) (sx (32 :: ([105, 110] ++ (32 :: (xEx y ++ r)))) _ stop_sp (sc_blank (sc_word (w := [105, 110]) (by decide) stop_sp.bound (sc_blank (sy r cs hst hc))))))
    simpa using this
  · intro ts f i rb ht he hf
    have t1 : Tl ts i (sgT [61] :: (bx ++ (kwT [105, 110] :: (bY ++ rb)))) := by simpa using ht
    have t2 := tl_tail t1
    have t3 := tl_app t2
    have t4 := tl_tail t3
    simp only [List.length_append, List.length_cons] at hf
    obtain ⟨x', e1, e2⟩ := rx ts f _ _ t2 (e5_kw ⟨rfl, rfl⟩) (by omega)
    obtain ⟨y', e3, e4⟩ := ry ts f _ _ t4 he (by omega)
    refine ⟨x', y', ?_, e2, e4⟩
    unfold qBody
    simp only [tl_at t1, e1, tl_at t3, e3]
    simp [Nat.add_assoc]; omega

theorem good_arms : ∀ (l : List (Pa × Ex)), l ≠ [] → (∀ q, q ∈ l → GoodP q.1) → (∀ q, q ∈ l → mCheckPat q.1 = true) → (∀ q, q ∈ l → GoodE q.2) →
    ∃ bs, ScB (armsT true (l.map (·.1)) (xExs (l.map (·.2)))) bs ∧ ∀ (ts : List Tok) (f n i : Nat) (fr : Int) (PS : List Pa) (ES : List Ex) (rb : List BTok), Tl ts i (bs ++ (kwT [101, 110, 100] :: rb)) → bs.length ≤ f → bs.length ≤ n →
      ∃ ps es b, qArms ts (qExprF ts f) fr n PS ES i = .ok (.mk 14 fr b [] [] 0 [] 0 noTy noTy (PS ++ ps) (ES ++ es), i + bs.length + 1) ∧ pasNude ps = pasNude (l.map (·.1)) ∧ exsNude es = exsNude (l.map (·.2))
  | [], h, _, _, _ => absurd rfl h
  | (p, e) :: l, _, hP, hC, hE => by
    obtain ⟨bp, op, sp, rp⟩ := hP (p, e) (by simp)
    obtain ⟨be, _, se, re⟩ := hE (p, e) (by simp)
    have hck : (rnP [] p).1 = true := hC (p, e) (by simp)
    have e0 : armsT true (((p, e) :: l).map (·.1)) (xExs (((p, e) :: l).map (·.2))) = xPat p ++ [32, 45, 62, 32] ++ xEx e ++ armsT false (l.map (·.1)) (xExs (l.map (·.2))) := by
      simp only [List.map_cons, xExs, armsT]; rfl
    have one : ∀ (ts : List Tok) (f i : Nat) (rb : List BTok), Tl ts i (bp ++ (sgT [45, 62] :: (be ++ rb))) → E5 rb → be.length ≤ f → ∃ p' e' sn, qPatF ts (ts.length + 1) [] i = .ok ((p', sn), i + bp.length) ∧ at? ts (i + bp.length) 5 [45, 62] = true ∧ qExprF ts f (i + bp.length + 1) = .ok (e', i + bp.length + 1 + be.length) ∧ p'.nude = p.nude ∧ e'.nude = e.nude := by
      intro ts f i rb ht he hf
      have t2 := tl_app ht
      have hl : bp.length ≤ ts.length := by
        have h0 := congrArg List.length ht
        simp only [List.length_map, List.length_drop, List.length_append] at h0
        omega
      obtain ⟨p', a1, a2⟩ := rp ts (ts.length + 1) [] i _ ht (fun b r e => by cases e; rfl) (by omega) hck
      obtain ⟨e', a3, a4⟩ := re ts f _ _ (tl_tail t2) he hf
      exact ⟨p', e', _, a1, by rw [tl_at t2]; rfl, a3, a2, a4⟩
    cases l with
    | nil =>
      refine ⟨bp ++ (sgT [45, 62] :: be), ?_, ?_⟩
      · intro r cs hst hc
        rw [e0]
        have := sp (32 :: 45 :: 62 :: 32 :: (xEx e ++ r)) _ stop_sp (sc_blank (sc_two (by decide) (sc_blank (se r cs hst hc))))
        simpa [armsT] using this
      · intro ts f n i fr PS ES rb ht hf hn
        have t1 : Tl ts i (bp ++ (sgT [45, 62] :: (be ++ (kwT [101, 110, 100] :: rb)))) := by simpa using ht
        simp only [List.length_append, List.length_cons] at hf hn
        obtain ⟨p', e', sn, a1, a2, a3, a4, a5⟩ := one ts f i _ t1 (e5_kw ⟨rfl, rfl⟩) (by omega)
        have t3 := tl_app (tl_tail (tl_app t1))
        cases n with
        | zero => omega
        | succ n =>
          refine ⟨[p'], [e'], behE ts (i + bp.length + 1 + be.length + 1), ?_, by simp [pasNude, a4], by simp [exsNude, a5]⟩
          rw [qArms, a1]
          simp only [a2, a3, tl_at t3, qEnd]
          simp [Nat.add_assoc]; omega
    | cons q l =>
      obtain ⟨bs, s1, r1⟩ := good_arms (q :: l) (by simp) (fun z hz => hP z (by simp [hz])) (fun z hz => hC z (by simp [hz])) (fun z hz => hE z (by simp [hz]))
      have e1 : armsT false ((q :: l).map (·.1)) (xExs ((q :: l).map (·.2))) = [32, 124, 32] ++ armsT true ((q :: l).map (·.1)) (xExs ((q :: l).map (·.2))) := by
        simp only [List.map_cons, armsT]; simp
      refine ⟨bp ++ (sgT [45, 62] :: (be ++ (sgT [124] :: bs))), ?_, ?_⟩
      · intro r cs hst hc
        rw [e0, e1]
        have := sp (32 :: 45 :: 62 :: 32 :: (xEx e ++ (32 :: 124 :: 32 :: (armsT true ((q :: l).map (·.1)) (xExs ((q :: l).map (·.2))) ++ r)))) _ stop_sp (sc_blank (sc_two (by decide) (sc_blank (se _ _ stop_sp (sc_blank (sc_one (by simp) (sc_blank (s1 r cs hst hc))))))))
        simpa using this
      · intro ts f n i fr PS ES rb ht hf hn
        have t1 : Tl ts i (bp ++ (sgT [45, 62] :: (be ++ (sgT [124] :: (bs ++ (kwT [101, 110, 100] :: rb)))))) := by simpa using ht
        simp only [List.length_append, List.length_cons] at hf hn
        obtain ⟨p', e', sn, a1, a2, a3, a4, a5⟩ := one ts f i _ t1 (e5_sg (by simp)) (by omega)
        have t3 := tl_app (tl_tail (tl_app t1))
        cases n with
        | zero => omega
        | succ n =>
          obtain ⟨ps, es, b, c1, c2, c3⟩ := r1 ts f n _ fr (PS ++ [p']) (ES ++ [e']) rb (tl_tail t3) (by omega) (by omega)
          refine ⟨p' :: ps, e' :: es, b, ?_, by rw [pasNude, c2, a4]; rfl, by rw [exsNude, c3, a5]; rfl⟩
          rw [qArms, a1]
          simp only [a2, a3, tl_at t3]
          rw [show ((sgT [124]).k == 5 && (sgT [124]).s == [124]) = true from rfl]
          simp only [if_true, c1, List.append_assoc, List.cons_append, List.nil_append]
          simp [Nat.add_assoc]; omega

end Go.Proofs.YtlagglkpbnbmeaaGreatDoor

/- The plain law of layer 7: an expression's text is read as that expression, but for places; unlike ones have unlike texts. No program in sight. -/
namespace Go.Proofs.YtlagglkpbnbmeaaGreatDoor
set_option linter.unusedVariables false
set_option linter.unusedSimpArgs false

section
variable {ts : List Tok} {i f : Nat} {r : List BTok}
theorem qName_at {s : List UInt8} (h : Tl ts i (⟨1, s, 0⟩ :: r)) : qName ts i = .ok (s, i + 1) := by unfold qName; rw [tl_of h, tl_str h]; rfl
theorem top_let (h : Tl ts i (kwT [108, 101, 116] :: r)) : qExprF ts (f + 1) i = qLetR ts (qExprF ts f) (frE ts i) (i + 1) := by rw [qExprF]; simp only [tl_at h]; rfl
theorem top_fun (h : Tl ts i (kwT [102, 117, 110] :: r)) : qExprF ts (f + 1) i = qFun ts (qExprF ts f) (frE ts i) (i + 1) := by rw [qExprF]; simp only [tl_at h]; rfl
theorem top_if (h : Tl ts i (kwT [105, 102] :: r)) : qExprF ts (f + 1) i = qIf ts (qExprF ts f) (frE ts i) (i + 1) := by rw [qExprF]; simp only [tl_at h]; rfl
theorem top_match (h : Tl ts i (kwT [109, 97, 116, 99, 104] :: r)) : qExprF ts (f + 1) i = qMatch ts (qExprF ts f) (frE ts i) (i + 1) := by rw [qExprF]; simp only [tl_at h]; rfl
end
theorem good_ex {e : Ex} (h : REx e) : GoodE e ∧ GoodA e := by
  have at_ : ∀ {e : Ex}, qT e.kind (xEx e) = xEx e → GoodA e → GoodE e ∧ GoodA e := fun hq h => ⟨goodE_of hq h, h⟩
  have non : ∀ {e : Ex}, qT e.kind (xEx e) = 40 :: (xEx e ++ [41]) → GoodE e → GoodE e ∧ GoodA e := fun hq h => ⟨h, goodA_of hq h⟩
  induction h with
  | name a b s hs =>
    have e0 : xEx (.mk 1 a b s [] 0 [] 0 noTy noTy [] []) = s := by rw [xEx]; rfl
    refine at_ (by rw [qT]; rfl) ⟨[⟨1, s, 0⟩], ⟨_, _, rfl, rfl⟩, fun r cs hst hc => ?_, fun ts f i rb ht hf => ⟨eLeaf ts 1 i s 0 [], by unfold qAtom qLeaf; rw [tl_of ht, tl_str ht]; rfl, rfl⟩⟩
    rw [e0]
    exact sc_name hs hst hc
  | int a b n hn =>
    have e0 : xEx (.mk 2 a b [] [] n [] 0 noTy noTy [] []) = mNum n := by rw [xEx]; rfl
    refine at_ (by rw [qT]; rfl) ⟨[⟨3, [], n⟩], ⟨_, _, rfl, rfl⟩, fun r cs hst hc => ?_, fun ts f i rb ht hf => ⟨eLeaf ts 2 i [] n [], by unfold qAtom qLeaf; rw [tl_of ht, tl_of ht, tl_nbr ht]; rfl, rfl⟩⟩
    rw [e0]
    exact sc_num hn hst hc
  | bool a b n hn =>
    have e0 : xEx (.mk 3 a b [] [] n [] 0 noTy noTy [] []) = truthT n := by rw [xEx]; rfl
    refine at_ (by rw [qT]; rfl) ⟨[kwT (truthT n)], ⟨_, _, rfl, ?_⟩, fun r cs hst hc => ?_, fun ts f i rb ht hf => ?_⟩
    · rcases hn with rfl | rfl <;> rfl
    · rw [e0]
      exact sc_truth hst hc
    · rcases hn with rfl | rfl
      · exact ⟨eLeaf ts 3 i [] 0 [], by unfold qAtom qLeaf; simp only [tl_of ht, tl_at ht]; rfl, rfl⟩
      · exact ⟨eLeaf ts 3 i [] 1 [], by unfold qAtom qLeaf; simp only [tl_of ht, tl_at ht]; rfl, rfl⟩
  | str a b s hs =>
    have e0 : xEx (.mk 4 a b [] [] 0 s 0 noTy noTy [] []) = mLong s := by rw [xEx]; rfl
    refine at_ (by rw [qT]; rfl) ⟨[⟨4, s, 0⟩], ⟨_, _, rfl, rfl⟩, fun r cs hst hc => ?_, fun ts f i rb ht hf => ⟨eLeaf ts 4 i [] 0 s, by unfold qAtom qLeaf; rw [tl_of ht, tl_of ht, tl_of ht, tl_str ht]; rfl, rfl⟩⟩
    rw [e0]
    exact sc_str hs hst hc
  | unit a b =>
    have e0 : xEx (.mk 5 a b [] [] 0 [] 0 noTy noTy [] []) = [40, 41] := by rw [xEx]; rfl
    refine at_ (by rw [qT]; rfl) ⟨[sgT [40], sgT [41]], ⟨_, _, rfl, rfl⟩, fun r cs hst hc => ?_, fun ts f i rb ht hf => ?_⟩
    · rw [e0]
      exact sc_one (by simp) (sc_one (by simp) hc)
    · have t2 := tl_tail ht
      exact ⟨.mk 5 (frE ts i) (behE ts (i + 1 + 1)) [] [] 0 [] 0 noTy noTy [] [], by unfold qAtom qRnd; simp only [leaf_no ht, tl_at ht, tl_at t2]; rfl, rfl⟩
  | nil a b =>
    have e0 : xEx (.mk 7 a b [] [] 0 [] 0 noTy noTy [] []) = [91, 93] := by rw [xEx]; rfl
    refine at_ (by rw [qT]; rfl) ⟨[sgT [91], sgT [93]], ⟨_, _, rfl, rfl⟩, fun r cs hst hc => ?_, fun ts f i rb ht hf => ?_⟩
    · rw [e0]
      exact sc_one (by simp) (sc_one (by simp) hc)
    · have t2 := tl_tail ht
      exact ⟨.mk 7 (frE ts i) (behE ts (i + 1 + 1)) [] [] 0 [] 0 noTy noTy [] [], by unfold qAtom; simp only [leaf_no ht, tl_at ht, tl_at t2]; rfl, rfl⟩
  | pair a b x y hx hy ihx ihy =>
    obtain ⟨bx, ⟨b1, r1, hb, ob⟩, sx, rx⟩ := ihx.1
    obtain ⟨bY, oy, sy, ry⟩ := ihy.1
    have e0 : xEx (.mk 6 a b [] [] 0 [] 0 noTy noTy [] [x, y]) = 40 :: (xEx x ++ [44, 32] ++ xEx y ++ [41]) := by rw [xEx, xExs_two]; rfl
    refine at_ (by rw [qT]; rfl) ⟨sgT [40] :: (bx ++ (sgT [44] :: (bY ++ [sgT [41]]))), ⟨_, _, rfl, rfl⟩, fun r cs hst hc => ?_, fun ts f i rb ht hf => ?_⟩
    · rw [e0]
      have := sc_one (c := 40) (.inl rfl) (sx (44 :: 32 :: (xEx y ++ (41 :: r))) _ (stop_sg (.inr rfl)) (sc_one (by simp) (sc_blank (sy (41 :: r) _ (stop_sg (.inl rfl)) (sc_one (by simp) hc)))))
      simpa [qT, Ex.kind] using this
    · have t1 : Tl ts i (sgT [40] :: (bx ++ (sgT [44] :: (bY ++ (sgT [41] :: rb))))) := by simpa using ht
      have t2 := tl_tail t1
      have t3 := tl_app t2
      have t4 := tl_tail t3
      have t5 := tl_app t4
      have t2' : Tl ts (i + 1) (b1 :: (r1 ++ (sgT [44] :: (bY ++ (sgT [41] :: rb))))) := by rw [hb] at t2; exact t2
      simp only [List.length_append, List.length_cons, List.length_nil] at hf
      obtain ⟨x', e1, e2⟩ := rx ts f _ _ t2 (e5_sg (by simp)) (by omega)
      obtain ⟨y', e3, e4⟩ := ry ts f _ _ t4 (e5_sg (by simp)) (by omega)
      refine ⟨.mk 6 (frE ts i) (behE ts (i + 1 + bx.length + 1 + bY.length + 1)) [] [] 0 [] 0 noTy noTy [] [x', y'], ?_, by simp [Ex.nude, exsNude, e2, e4]⟩
      unfold qAtom qRnd qParen
      simp only [leaf_no t1, tl_at t1, tl_at t2', ob, e1, tl_at t3, e3, tl_at t5]
      simp [Nat.add_assoc]; omega
  | cons a b x y hx hy ihx ihy =>
    refine non (by rw [qT]; rfl) (good_two ihx.2 ihy.2 (t := [32, 58, 58, 32]) (s := [sgT [58, 58]]) (by rw [xEx, xExs_two]; rfl) (fun r cs h => sc_blank (sc_two (by decide) (sc_blank h))) (fun r => stop_sp) ?_)
    intro ts f i j k x' y' rb r he ⟨n, hn⟩ h1 h2 h3 h4 h5 h6 h7
    have a1 := sum_of (eprod_of (app_of h1 h2 rfl) h2 rfl rfl) h2 rfl rfl
    have a2 := sum_of (eprod_of (app_of h4 h5 he.h0) h5 he.h1 he.h2) h5 he.h3 he.h4
    refine ⟨_, cmp_of (cons_two a1 h2 (by rw [hn]; exact cons_of a2 h5 he.h5 n)) h5 he.h6 he.h7 he.h8, ?_⟩
    simp [eTwo, Ex.nude, exsNude, h6, h7, pasNude]
  | app a b x y hx hy ihx ihy =>
    refine non (by rw [qT]; rfl) (good_two ihx.2 ihy.2 (t := [32]) (s := []) (by rw [xEx, xExs_two]; rfl) (fun r cs h => sc_blank h) (fun r => stop_sp) ?_)
    intro ts f i j k x' y' rb r he ⟨n, hn⟩ h1 h2 h3 h4 h5 h6 h7
    have a1 := app_two hn h1 (by rw [beg_bg h2]; exact h3) h4 h5 he.h0
    refine ⟨_, cmp_of (cons_of (sum_of (eprod_of a1 h5 he.h1 he.h2) h5 he.h3 he.h4) h5 he.h5 _) h5 he.h6 he.h7 he.h8, ?_⟩
    simp [eTwo, Ex.nude, exsNude, h6, h7, pasNude]
  | op a b op x y ho1 ho2 hx hy ihx ihy =>
    have hop : op = 1 ∨ op = 2 ∨ op = 3 ∨ op = 4 ∨ op = 5 ∨ op = 6 ∨ op = 7 := by omega
    have nn : ∀ x' y' : Ex, x'.nude = x.nude → y'.nude = y.nude → (eTwo 16 op x' y').nude = (Ex.mk 16 a b [] [] 0 [] op noTy noTy [] [x, y]).nude := fun x' y' h6 h7 => by
      simp [eTwo, Ex.nude, exsNude, h6, h7, pasNude]
    have go : ∀ (s : List UInt8), signT op = 32 :: (s ++ [32]) → (∀ r cs, Sc r cs → Sc (s ++ 32 :: r) (sgT s :: cs)) →
        (∀ (ts : List Tok) (f i j k : Nat) (x' y' : Ex) (rb r : List BTok) (n : Nat), E5 rb → ts.length = n + 1 → qAtom ts (qExprF ts f) i = .ok (x', j) → Tl ts j (sgT s :: r) → qAtom ts (qExprF ts f) (j + 1) = .ok (y', k) → Tl ts k rb → qCmp ts (qExprF ts f) i = .ok (eTwo 16 op x' y', k)) → GoodE (.mk 16 a b [] [] 0 [] op noTy noTy [] [x, y]) := by
      intro s hs hsc hr
      refine good_two ihx.2 ihy.2 (t := signT op) (s := [sgT s]) (by rw [xEx, xExs_two]; rfl) (fun r cs h => ?_) (fun r => by rw [hs]; exact stop_sp) ?_
      · rw [hs]
        have := sc_blank (hsc r cs h)
        simpa using this
      · intro ts f i j k x' y' rb r he ⟨n, hn⟩ h1 h2 h3 h4 h5 h6 h7
        exact ⟨_, hr ts f i j k x' y' rb r n he hn h1 h2 h4 h5, nn _ _ h6 h7⟩
    refine non (by rw [qT]; rfl) ?_
    rcases hop with rfl | rfl | rfl | rfl | rfl | rfl | rfl
    · refine go [43] rfl (fun r cs h => sc_sgs (by decide) h) fun ts f i j k x' y' rb r n he hn h1 h2 h4 h5 => ?_
      exact cmp_of (cons_of (sum_two (.inl ⟨rfl, rfl⟩) hn (eprod_of (app_of h1 h2 rfl) h2 rfl rfl) h2 (eprod_of (app_of h4 h5 he.h0) h5 he.h1 he.h2) h5 he.h3 he.h4) h5 he.h5 _) h5 he.h6 he.h7 he.h8
    · refine go [45] rfl (fun r cs h => sc_sgs (by decide) h) fun ts f i j k x' y' rb r n he hn h1 h2 h4 h5 => ?_
      exact cmp_of (cons_of (sum_two (.inr ⟨rfl, rfl⟩) hn (eprod_of (app_of h1 h2 rfl) h2 rfl rfl) h2 (eprod_of (app_of h4 h5 he.h0) h5 he.h1 he.h2) h5 he.h3 he.h4) h5 he.h5 _) h5 he.h6 he.h7 he.h8
    · refine go [42] rfl (fun r cs h => sc_sgs (by decide) h) fun ts f i j k x' y' rb r n he hn h1 h2 h4 h5 => ?_
      exact cmp_of (cons_of (sum_of (eprod_two (.inl ⟨rfl, rfl⟩) hn (app_of h1 h2 rfl) h2 (app_of h4 h5 he.h0) h5 he.h1 he.h2) h5 he.h3 he.h4) h5 he.h5 _) h5 he.h6 he.h7 he.h8
    · refine go [47] rfl (fun r cs h => sc_sgs (by decide) h) fun ts f i j k x' y' rb r n he hn h1 h2 h4 h5 => ?_
      exact cmp_of (cons_of (sum_of (eprod_two (.inr ⟨rfl, rfl⟩) hn (app_of h1 h2 rfl) h2 (app_of h4 h5 he.h0) h5 he.h1 he.h2) h5 he.h3 he.h4) h5 he.h5 _) h5 he.h6 he.h7 he.h8
    · refine go [60] rfl (fun r cs h => sc_sgs (by decide) h) fun ts f i j k x' y' rb r n he hn h1 h2 h4 h5 => ?_
      exact cmp_two (.inl ⟨rfl, rfl⟩) (cons_of (sum_of (eprod_of (app_of h1 h2 rfl) h2 rfl rfl) h2 rfl rfl) h2 rfl _) h2 (cons_of (sum_of (eprod_of (app_of h4 h5 he.h0) h5 he.h1 he.h2) h5 he.h3 he.h4) h5 he.h5 _)
    · refine go [61] rfl (fun r cs h => sc_sgs (by decide) h) fun ts f i j k x' y' rb r n he hn h1 h2 h4 h5 => ?_
      exact cmp_two (.inr (.inl ⟨rfl, rfl⟩)) (cons_of (sum_of (eprod_of (app_of h1 h2 rfl) h2 rfl rfl) h2 rfl rfl) h2 rfl _) h2 (cons_of (sum_of (eprod_of (app_of h4 h5 he.h0) h5 he.h1 he.h2) h5 he.h3 he.h4) h5 he.h5 _)
    · refine go [61, 61] rfl (fun r cs h => sc_two (by decide) (sc_blank h)) fun ts f i j k x' y' rb r n he hn h1 h2 h4 h5 => ?_
      exact cmp_two (.inr (.inr ⟨rfl, rfl⟩)) (cons_of (sum_of (eprod_of (app_of h1 h2 rfl) h2 rfl rfl) h2 rfl rfl) h2 rfl _) h2 (cons_of (sum_of (eprod_of (app_of h4 h5 he.h0) h5 he.h1 he.h2) h5 he.h3 he.h4) h5 he.h5 _)
  | asc a b A x hA hx ihx =>
    obtain ⟨bx, ⟨b1, r1, hb, ob⟩, sx, rx⟩ := ihx.1
    have e0 : xEx (.mk 15 a b [] [] 0 [] 0 A noTy [] [x]) = 40 :: (xEx x ++ ([32, 58, 32] ++ mTxt A) ++ [41]) := by
      rw [xEx, xExs, xExs, sortT, if_neg (closed_kind hA)]; rfl
    refine at_ (by rw [qT]; rfl) ⟨sgT [40] :: (bx ++ (sgT [58] :: (bTxt A ++ [sgT [41]]))), ⟨_, _, rfl, rfl⟩, fun r cs hst hc => ?_, fun ts f i rb ht hf => ?_⟩
    · rw [e0]
      have := sc_one (c := 40) (.inl rfl) (sx (32 :: 58 :: 32 :: (mTxt A ++ (41 :: r))) _ stop_sp (sc_blank (sc_sgs (by decide) (sc_txt hA (41 :: r) _ (bound_cons (by decide)) (sc_one (by simp) hc)))))
      simpa [qT, Ex.kind] using this
    · have t1 : Tl ts i (sgT [40] :: (bx ++ (sgT [58] :: (bTxt A ++ (sgT [41] :: rb))))) := by simpa using ht
      have t2 := tl_tail t1
      have t3 := tl_app t2
      have t4 := tl_tail t3
      have t5 := tl_app t4
      have t2' : Tl ts (i + 1) (b1 :: (r1 ++ (sgT [58] :: (bTxt A ++ (sgT [41] :: rb))))) := by rw [hb] at t2; exact t2
      simp only [List.length_append, List.length_cons, List.length_nil] at hf
      obtain ⟨x', e1, e2⟩ := rx ts f _ _ t2 (e5_sg (by simp)) (by omega)
      have e3 := rd_typ hA t4 (noGo_sg (.inl rfl)) (by have := tl_len t3; omega)
      refine ⟨.mk 15 (frE ts i) (behE ts (i + 1 + bx.length + 1 + (bTxt A).length + 1)) [] [] 0 [] 0 A noTy [] [x'], ?_, by simp [Ex.nude, exsNude, e2]⟩
      unfold qAtom qRnd qParen
      simp only [leaf_no t1, tl_at t1, tl_at t2', ob, e1, tl_at t3, e3, tl_at t5]
      simp [Nat.add_assoc]; omega
  | func a b s A x hs hA hx ihx =>
    obtain ⟨bx, _, sx, rx⟩ := ihx.1
    obtain ⟨bp, _, sp, rp⟩ := good_par hs hA
    have e0 : xEx (.mk 9 a b s [] 0 [] 0 A noTy [] [x]) = [102, 117, 110, 32] ++ paramT s A ++ [32, 45, 62, 32] ++ xEx x := by rw [xEx, xExs, xExs]; rfl
    refine non (by rw [qT]; rfl) ⟨kwT [102, 117, 110] :: (bp ++ (sgT [45, 62] :: bx)), ⟨_, _, rfl, rfl⟩, fun r cs hst hc => ?_, fun ts f i rb ht he hf => ?_⟩
    · rw [e0]
      have := sc_word (w := [102, 117, 110]) (by decide) (Stop.bound (stop_sp)) (sc_blank (sp (32 :: 45 :: 62 :: 32 :: (xEx x ++ r)) _ stop_sp (sc_blank (sc_two (by decide) (sc_blank (sx r cs hst hc))))))
      simpa using this
    · have t1 : Tl ts i (kwT [102, 117, 110] :: (bp ++ (sgT [45, 62] :: (bx ++ rb)))) := by simpa using ht
      have t2 := tl_tail t1
      have t3 := tl_app t2
      simp only [List.length_append, List.length_cons] at hf
      cases f with
      | zero => omega
      | succ f =>
        obtain ⟨x', e1, e2⟩ := rx ts f _ _ (tl_tail t3) he (by omega)
        refine ⟨.mk 9 (frE ts i) x'.to s [] 0 [] 0 A noTy [] [x'], ?_, by simp [Ex.nude, exsNude, e2]⟩
        rw [top_fun t1]
        unfold qFun
        simp only [rp ts _ _ t2, tl_at t3, e1]
        simp [Nat.add_assoc]; omega
  | letE a b s A x y hs hA hx hy ihx ihy =>
    obtain ⟨bS, sS, tS, rS⟩ := good_sort hA
    obtain ⟨bB, sB, rB⟩ := good_body ihx.1 ihy.1
    have e0 : xEx (.mk 11 a b s [] 0 [] 0 A noTy [] [x, y]) = [108, 101, 116, 32] ++ s ++ sortT A ++ ([32, 61, 32] ++ xEx x ++ [32, 105, 110, 32] ++ xEx y) := by
      rw [xEx, xExs_two]; simp
    refine non (by rw [qT]; rfl) ⟨kwT [108, 101, 116] :: ⟨1, s, 0⟩ :: (bS ++ (sgT [61] :: bB)), ⟨_, _, rfl, rfl⟩, fun r cs hst hc => ?_, fun ts f i rb ht he hf => ?_⟩
    · rw [e0]
      have := sc_word (w := [108, 101, 116]) (by decide) (Stop.bound (stop_sp)) (sc_blank (sc_name hs (tS _ (by simp only [List.append_assoc, List.cons_append]; exact stop_sp)) (sS _ _ (by simp only [List.append_assoc, List.cons_append]; exact stop_sp) (sB r cs hst hc))))
      simpa using this
    · have t1 : Tl ts i (kwT [108, 101, 116] :: ⟨1, s, 0⟩ :: (bS ++ (sgT [61] :: (bB ++ rb)))) := by simpa using ht
      have t2 := tl_tail t1
      have t3 := tl_tail t2
      have t4 := tl_app t3
      simp only [List.length_append, List.length_cons] at hf
      cases f with
      | zero => omega
      | succ f =>
        obtain ⟨x', y', e1, e2, e3⟩ := rB ts f _ _ t4 he (by omega)
        refine ⟨.mk 11 (frE ts i) y'.to s [] 0 [] 0 A noTy [] [x', y'], ?_, by simp [Ex.nude, exsNude, e2, e3]⟩
        rw [top_let t1, qLetR, tl_at t2, if_neg (fun h => by cases h), qLet, qName_at t2]
        simp only [rS ts _ _ t3, e1]
        simp [Nat.add_assoc]; omega
  | recE a b s g A B x y hs hg hA hB hx hy ihx ihy =>
    obtain ⟨bp, _, sp, rp⟩ := good_par hg hA
    obtain ⟨bS, sS, tS, rS⟩ := good_sort hB
    obtain ⟨bB, sB, rB⟩ := good_body ihx.1 ihy.1
    have e0 : xEx (.mk 12 a b s g 0 [] 0 A B [] [x, y]) = [108, 101, 116, 32, 114, 101, 99, 32] ++ s ++ [32] ++ paramT g A ++ sortT B ++ ([32, 61, 32] ++ xEx x ++ [32, 105, 110, 32] ++ xEx y) := by
      rw [xEx, xExs_two]; simp
    refine non (by rw [qT]; rfl) ⟨kwT [108, 101, 116] :: kwT [114, 101, 99] :: ⟨1, s, 0⟩ :: (bp ++ (bS ++ (sgT [61] :: bB))), ⟨_, _, rfl, rfl⟩, fun r cs hst hc => ?_, fun ts f i rb ht he hf => ?_⟩
    · rw [e0]
      have := sc_word (w := [108, 101, 116]) (by decide) (Stop.bound (stop_sp)) (sc_blank (sc_word (w := [114, 101, 99]) (by decide) (Stop.bound (stop_sp)) (sc_blank (sc_name hs stop_sp (sc_blank (sp _ _ (tS _ (by simp only [List.append_assoc, List.cons_append]; exact stop_sp)) (sS _ _ (by simp only [List.append_assoc, List.cons_append]; exact stop_sp) (sB r cs hst hc))))))))
      simpa using this
    · have t1 : Tl ts i (kwT [108, 101, 116] :: kwT [114, 101, 99] :: ⟨1, s, 0⟩ :: (bp ++ (bS ++ (sgT [61] :: (bB ++ rb))))) := by simpa using ht
      have t2 := tl_tail t1
      have t3 := tl_tail t2
      have t4 := tl_tail t3
      have t5 := tl_app t4
      have t6 := tl_app t5
      simp only [List.length_append, List.length_cons] at hf
      cases f with
      | zero => omega
      | succ f =>
        obtain ⟨x', y', e1, e2, e3⟩ := rB ts f _ _ t6 he (by omega)
        refine ⟨.mk 12 (frE ts i) y'.to s g 0 [] 0 A B [] [x', y'], ?_, by simp [Ex.nude, exsNude, e2, e3]⟩
        rw [top_let t1, qLetR, show at? ts (i + 1) 2 [114, 101, 99] = true by (rw [tl_at t2]; rfl), if_pos rfl, qRec, qName_at t3]
        simp only [rp ts _ _ t4, rS ts _ _ t5, e1]
        simp [Nat.add_assoc]; omega
  | ifE a b x y z hx hy hz ihx ihy ihz =>
    obtain ⟨bx, _, sx, rx⟩ := ihx.1
    obtain ⟨bY, _, sy, ry⟩ := ihy.1
    obtain ⟨bz, _, sz, rz⟩ := ihz.1
    have e0 : xEx (.mk 13 a b [] [] 0 [] 0 noTy noTy [] [x, y, z]) = [105, 102, 32] ++ xEx x ++ [32, 116, 104, 101, 110, 32] ++ xEx y ++ [32, 101, 108, 115, 101, 32] ++ xEx z := by rw [xEx, xExs, xExs, xExs, xExs]; rfl
    refine non (by rw [qT]; rfl) ⟨kwT [105, 102] :: (bx ++ (kwT [116, 104, 101, 110] :: (bY ++ (kwT [101, 108, 115, 101] :: bz)))), ⟨_, _, rfl, rfl⟩, fun r cs hst hc => ?_, fun ts f i rb ht he hf => ?_⟩
    · rw [e0]
      have := sc_word (w := [105, 102]) (by decide) (Stop.bound (stop_sp)) (sc_blank (sx _ _ stop_sp (sc_blank (sc_word (w := [116, 104, 101, 110]) (by decide) (Stop.bound (stop_sp)) (sc_blank (sy _ _ stop_sp (sc_blank (sc_word (w := [101, 108, 115, 101]) (by decide) (Stop.bound (stop_sp)) (sc_blank (sz r cs hst hc))))))))))
      simpa using this
    · have t1 : Tl ts i (kwT [105, 102] :: (bx ++ (kwT [116, 104, 101, 110] :: (bY ++ (kwT [101, 108, 115, 101] :: (bz ++ rb)))))) := by simpa using ht
      have t2 := tl_tail t1
      have t3 := tl_app t2
      have t4 := tl_tail t3
      have t5 := tl_app t4
      have t6 := tl_tail t5
      simp only [List.length_append, List.length_cons] at hf
      cases f with
      | zero => omega
      | succ f =>
        obtain ⟨x', e1, e2⟩ := rx ts f _ _ t2 (e5_kw ⟨rfl, rfl⟩) (by omega)
        obtain ⟨y', e3, e4⟩ := ry ts f _ _ t4 (e5_kw ⟨rfl, rfl⟩) (by omega)
        obtain ⟨z', e5, e6⟩ := rz ts f _ _ t6 he (by omega)
        refine ⟨.mk 13 (frE ts i) z'.to [] [] 0 [] 0 noTy noTy [] [x', y', z'], ?_, by simp [Ex.nude, exsNude, e2, e4, e6]⟩
        rw [top_if t1]
        unfold qIf
        rw [qIfS, e1]
        simp only [tl_at t3]
        rw [if_neg (by decide), if_pos (by rfl), qIfS, e3]
        simp only [tl_at t5]
        rw [if_neg (by decide), if_pos (by rfl), qIfS, e5]
        simp only []
        rw [if_pos trivial, qIfS]
        simp [Nat.add_assoc]; omega
  | matchE a b x l hl hx hP hC hE ihx ihE =>
    obtain ⟨bx, _, sx, rx⟩ := ihx.1
    obtain ⟨bs, sA, rA⟩ := good_arms l hl (fun q hq => (good_pat (hP q hq)).1) hC (fun q hq => (ihE q hq).1)
    have e0 : xEx (.mk 14 a b [] [] 0 [] 0 noTy noTy (l.map (·.1)) (x :: l.map (·.2))) = [109, 97, 116, 99, 104, 32] ++ xEx x ++ [32, 119, 105, 116, 104, 32] ++ armsT true (l.map (·.1)) (xExs (l.map (·.2))) ++ [32, 101, 110, 100] := by rw [xEx, xExs]; rfl
    refine non (by rw [qT]; rfl) ⟨kwT [109, 97, 116, 99, 104] :: (bx ++ (kwT [119, 105, 116, 104] :: (bs ++ [kwT [101, 110, 100]]))), ⟨_, _, rfl, rfl⟩, fun r cs hst hc => ?_, fun ts f i rb ht he hf => ?_⟩
    · rw [e0]
      have := sc_word (w := [109, 97, 116, 99, 104]) (by decide) (Stop.bound (stop_sp)) (sc_blank (sx _ _ stop_sp (sc_blank (sc_word (w := [119, 105, 116, 104]) (by decide) (Stop.bound (stop_sp)) (sc_blank (sA _ _ stop_sp (sc_blank (sc_word (w := [101, 110, 100]) (r := r) (by decide) hst.bound hc))))))))
      simpa using this
    · have t1 : Tl ts i (kwT [109, 97, 116, 99, 104] :: (bx ++ (kwT [119, 105, 116, 104] :: (bs ++ (kwT [101, 110, 100] :: rb))))) := by simpa using ht
      have t2 := tl_tail t1
      have t3 := tl_app t2
      have t4 := tl_tail t3
      have hlen : bs.length ≤ ts.length := by
        have h0 := congrArg List.length t4
        simp only [List.length_map, List.length_drop, List.length_append] at h0
        omega
      simp only [List.length_append, List.length_cons, List.length_nil] at hf
      cases f with
      | zero => omega
      | succ f =>
        obtain ⟨x', e1, e2⟩ := rx ts f _ _ t2 (e5_kw ⟨rfl, rfl⟩) (by omega)
        obtain ⟨ps, es, q, e3, e4, e5⟩ := rA ts f (ts.length + 1) _ (frE ts i) [] [x'] rb t4 (by omega) (by omega)
        refine ⟨.mk 14 (frE ts i) q [] [] 0 [] 0 noTy noTy ([] ++ ps) ([x'] ++ es), ?_, by simp [Ex.nude, exsNude, e2, e4, e5]⟩
        rw [top_match t1]
        unfold qMatch
        simp only [e1, tl_at t3]
        rw [if_pos (by rfl), e3]
        simp [Nat.add_assoc]; omega

theorem ScB.whole {x : List UInt8} {bs : List BTok} (h : ScB x bs) : Sc x bs := by
  have := h [] [] stop_nil sc_nil
  rwa [List.append_nil, List.append_nil] at this
theorem round {e : Ex} (h : REx e) (hl : (xEx e).length ≤ 16384) : ∃ e', mParse (xEx e) = .ok e' ∧ e'.nude = e.nude := by
  obtain ⟨bs, _, h1, h2⟩ := (good_ex h).1
  obtain ⟨ts, h3, h4⟩ := sc_scan h1.whole hl
  have hlen : ts.length = bs.length := by rw [← h4, List.length_map]
  obtain ⟨e', h5, h6⟩ := h2 ts (ts.length + 1) 0 [] (by rw [Tl, List.drop_zero, List.append_nil]; exact h4) e5_nil (by omega)
  refine ⟨e', ?_, h6⟩
  unfold mParse
  rw [h3]
  simp only [h5]
  rw [if_pos (by omega)]
theorem Pa.kind_nude (p : Pa) : p.nude.kind = p.kind := by cases p; rfl
theorem Ex.kind_nude (e : Ex) : e.nude.kind = e.kind := by cases e; rfl
mutual
theorem xPat_nude : ∀ (p : Pa), xPat p.nude = xPat p
  | .mk k a b nm n s kids => by rw [Pa.nude, xPat, xPat, xPs_nude kids]
theorem xPs_nude : ∀ (l : List Pa), xPs (pasNude l) = xPs l
  | [] => rfl
  | p :: r => by rw [pasNude, xPs, xPs, xPat_nude p, xPs_nude r, Pa.kind_nude]
end
theorem armsT_nude : ∀ (l : List Pa) (first : Bool) (ts : List (List UInt8 × List UInt8)), armsT first (pasNude l) ts = armsT first l ts
  | [], _, _ => rfl
  | p :: r, first, ts => by rw [pasNude, armsT, armsT, xPat_nude p, armsT_nude r]
mutual
theorem xEx_nude : ∀ (e : Ex), xEx e.nude = xEx e
  | .mk k a b nm arg n s op A B pats kids => by rw [Ex.nude, xEx, xEx, xExs_nude kids, armsT_nude]
theorem xExs_nude : ∀ (l : List Ex), xExs (exsNude l) = xExs l
  | [] => rfl
  | e :: r => by rw [exsNude, xExs, xExs, xEx_nude e, xExs_nude r, Ex.kind_nude]
end

end Go.Proofs.YtlagglkpbnbmeaaGreatDoor

/- The plain law of layer 7: the same, but for places; bounds. No program in sight. -/
namespace Go.Proofs.YtlagglkpbnbmeaaGreatDoor
set_option linter.unusedVariables false
set_option linter.unusedSimpArgs false

theorem paB_of {n m : Nat} (hm : n ≤ m) {p : Pa} (h : PaK n p) : PaB m p := by
  induction h with
  | mk h1 h2 h3 _ ih => exact .mk (by omega) ih
mutual
theorem Pa.same_nude : ∀ (x y : Pa), y.nude = x.nude → x.same y = true
  | .mk k a b nm n s kids, .mk k' a' b' nm' n' s' kids', h => by
    rw [Pa.nude, Pa.nude] at h
    injection h with h1 _ _ h2 h3 h4 h5
    rw [Pa.same, pasSame_nude kids kids' h5]
    subst h1 h2 h3 h4
    simp
theorem pasSame_nude : ∀ (x y : List Pa), pasNude y = pasNude x → pasSame x y = true
  | [], [], _ => by rw [pasSame]
  | a :: l, b :: r, h => by
    rw [pasNude, pasNude] at h
    injection h with h1 h2
    rw [pasSame, Pa.same_nude a b h1, pasSame_nude l r h2]; rfl
  | [], _ :: _, h => by rw [pasNude, pasNude] at h; cases h
  | _ :: _, [], h => by rw [pasNude, pasNude] at h; cases h
end
mutual
theorem Ex.same_nude : ∀ (x y : Ex), y.nude = x.nude → x.same y = true
  | .mk k a b nm arg n s op A B pats kids, .mk k' a' b' nm' arg' n' s' op' A' B' pats' kids', h => by
    rw [Ex.nude, Ex.nude] at h
    injection h with h1 _ _ h2 h3 h4 h5 h6 h7 h8 h9 h10
    rw [Ex.same, exsSame_nude kids kids' h10, ← pasSame_all, pasSame_nude pats pats' h9]
    subst h1 h2 h3 h4 h5 h6 h7 h8
    simp [mSame_refl]
theorem exsSame_nude : ∀ (x y : List Ex), exsNude y = exsNude x → exsSame x y = true
  | [], [], _ => by rw [exsSame]
  | a :: l, b :: r, h => by
    rw [exsNude, exsNude] at h
    injection h with h1 h2
    rw [exsSame, Ex.same_nude a b h1, exsSame_nude l r h2]; rfl
  | [], _ :: _, h => by rw [exsNude, exsNude] at h; cases h
  | _ :: _, [], h => by rw [exsNude, exsNude] at h; cases h
end
mutual
theorem Pa.nude_same : ∀ (x y : Pa), x.same y = true → x.nude = y.nude
  | .mk k a b nm n s kids, .mk k' a' b' nm' n' s' kids', h => by
    rw [Pa.same] at h
    simp only [Bool.and_eq_true, decide_eq_true_eq] at h
    obtain ⟨⟨⟨⟨rfl, rfl⟩, rfl⟩, rfl⟩, h5⟩ := h
    rw [Pa.nude, Pa.nude, pasNude_same kids kids' h5]
theorem pasNude_same : ∀ (x y : List Pa), pasSame x y = true → pasNude x = pasNude y
  | [], [], _ => rfl
  | a :: l, b :: r, h => by
    rw [pasSame, Bool.and_eq_true] at h
    rw [pasNude, pasNude, Pa.nude_same a b h.1, pasNude_same l r h.2]
  | [], _ :: _, h => by simp [pasSame] at h
  | _ :: _, [], h => by simp [pasSame] at h
end
mutual
theorem Ex.nude_same : ∀ (x y : Ex), x.same y = true → x.nude = y.nude
  | .mk k a b nm arg n s op A B pats kids, .mk k' a' b' nm' arg' n' s' op' A' B' pats' kids', h => by
    rw [Ex.same, ← pasSame_all] at h
    simp only [Bool.and_eq_true, decide_eq_true_eq] at h
    obtain ⟨⟨⟨⟨⟨⟨⟨⟨⟨rfl, rfl⟩, rfl⟩, rfl⟩, rfl⟩, rfl⟩, hA⟩, hB⟩, hp⟩, hk⟩ := h
    rw [Ex.nude, Ex.nude, pasNude_same pats pats' hp, exsNude_same kids kids' hk, mSame_of _ _ hA, mSame_of _ _ hB]
theorem exsNude_same : ∀ (x y : List Ex), exsSame x y = true → exsNude x = exsNude y
  | [], [], _ => rfl
  | a :: l, b :: r, h => by
    rw [exsSame, Bool.and_eq_true] at h
    rw [exsNude, exsNude, Ex.nude_same a b h.1, exsNude_same l r h.2]
  | [], _ :: _, h => by simp [exsSame] at h
  | _ :: _, [], h => by simp [exsSame] at h
end
end Go.Proofs.YtlagglkpbnbmeaaGreatDoor

