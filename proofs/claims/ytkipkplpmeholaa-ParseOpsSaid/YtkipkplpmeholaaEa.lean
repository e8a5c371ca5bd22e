/- The plain model of layer 6: what is read depends on the tokens up to the place behind it alone. -/
import Derived.Test.YtkipkplpmeholaaEk
import Derived.Test.YtkipkplpmeholaaTX
namespace Go.Proofs.Ytkipkplpmeholaa
set_option linter.unusedVariables false
set_option linter.unusedSimpArgs false
set_option linter.unusedSectionVars false

def plQ {α : Type} : QR α → Nat
  | .error e => e.1
  | .ok (_, j) => j
theorem plGe {α : Type} {i n : Nat} {x : QR α} (k : QRok i n x) : i ≤ plQ x := by
  rcases x with ⟨e, q⟩ | ⟨a, j⟩
  · exact k.1
  · exact Nat.le_of_lt k.1
theorem plGe0 {α : Type} {i n : Nat} {x : QR α} (k : QRok0 i n x) : i ≤ plQ x := by
  rcases x with ⟨e, q⟩ | ⟨a, j⟩
  · exact k.1
  · exact k.1
/-- the same tokens up to place m -/
def Agr (ts ts' : List Tok) (m : Nat) : Prop := ∀ k, k ≤ m → ts'[k]? = ts[k]?
section
variable {ts ts' : List Tok} {m : Nat} (hA : Agr ts ts' m)
include hA
theorem agHit {i k : Nat} {s : List UInt8} (h : i ≤ m) : hit k s (ts'.drop i) = hit k s (ts.drop i) := by
  have e := hA i h
  rcases hx : ts[i]? with _ | x
  · rw [hx] at e
    rw [List.drop_eq_nil_of_le (List.getElem?_eq_none_iff.1 hx), List.drop_eq_nil_of_le (List.getElem?_eq_none_iff.1 e)]
  · rw [hx] at e
    obtain ⟨h1, h2⟩ := List.getElem?_eq_some_iff.1 hx
    obtain ⟨h3, h4⟩ := List.getElem?_eq_some_iff.1 e
    rw [List.drop_eq_getElem_cons h1, List.drop_eq_getElem_cons h3, h2, h4]
    rfl
theorem agA {i k : Nat} {s : List UInt8} (h : i ≤ m) : at? ts' i k s = at? ts i k s := agHit hA h
theorem agO {i k : Nat} (h : i ≤ m) : of? ts' i k = of? ts i k := by unfold of?; rw [hA i h]
theorem agB {i : Nat} (h : i ≤ m) : eBegins ts' i = eBegins ts i := by unfold eBegins; simp only [agA hA h, agO hA h]
theorem agF {i : Nat} (h : i ≤ m) : frE ts' i = frE ts i := by unfold frE; rw [hA i h]
theorem agS {i : Nat} (h : i ≤ m) : strE ts' i = strE ts i := by unfold strE; rw [hA i h]
theorem agN {i : Nat} (h : i ≤ m) : nbrE ts' i = nbrE ts i := by unfold nbrE; rw [hA i h]
theorem agE {i : Nat} (h : i ≤ m + 1) : behE ts' i = behE ts i := by unfold behE; rw [hA (i - 1) (by omega)]
theorem agLt {i : Nat} (h : i ≤ m) (hi : i < ts.length) : i < ts'.length := by
  have e := hA i h
  rw [List.getElem?_eq_getElem hi] at e
  exact (List.getElem?_eq_some_iff.1 e).1
end
section
variable {ts ts' : List Tok} {m : Nat} (hA : Agr ts ts' m)
include hA
theorem qName_ag (i : Nat) (hi : i ≤ ts.length) : plQ (qName ts i) ≤ m → qName ts' i = qName ts i := by
  unfold qName
  rcases h1 : of? ts i 1 with _ | _
  · simp only [Bool.false_eq_true, if_false]
    intro hz
    have hz : i ≤ m := hz
    have gh1 := (agO hA (by omega)).trans h1
    simp only [gh1, if_true, if_false, Bool.false_eq_true, agF hA (i := i) (by omega), agS hA (i := i) (by omega), agN hA (i := i) (by omega), agE hA (i := i) (by omega), agE hA (i := i + 1) (by omega)]
  · simp only [if_true]
    have := ofl h1
    intro hz
    have hz : (i + 1) ≤ m := hz
    have gh1 := (agO hA (by omega)).trans h1
    simp only [gh1, if_true, if_false, Bool.false_eq_true, agF hA (i := i) (by omega), agS hA (i := i) (by omega), agN hA (i := i) (by omega), agE hA (i := (i + 1)) (by omega), agE hA (i := (i + 1) + 1) (by omega)]
/-- what two readers of types come to, over the tokens ts and ts' -/
def RelT (ts ts' : List Tok) : PR Ty → PR Ty → Prop
  | .error c, x' => ∃ c', x' = .error c' ∧ ts'.length - c' = ts.length - c
  | .ok (t, r), x' => ∃ k, r = ts.drop k ∧ k ≤ ts.length ∧ k ≤ ts'.length ∧ x' = .ok (t, ts'.drop k)
def plT (n : Nat) : PR Ty → Nat
  | .error c => n - c
  | .ok (_, r) => n - r.length
def TyAg (ts ts' : List Tok) (m i : Nat) (typ typ' : List Tok → PR Ty) : Prop := ∀ j, i < j → j ≤ ts.length → plT ts.length (typ (ts.drop j)) ≤ m → RelT ts ts' (typ (ts.drop j)) (typ' (ts'.drop j))
omit hA in
theorem drop_tail {l : List Tok} {i : Nat} : (l.drop i).tail = l.drop (i + 1) := by rw [List.tail_drop]
omit hA in
theorem len_drop {l : List Tok} {i : Nat} (h : i ≤ l.length) : l.length - (l.drop i).length = i := by rw [List.length_drop]; omega
theorem mAtom_ag {typ typ' : List Tok → PR Ty} {i : Nat} (hT : TyAg ts ts' m i typ typ') (hi : i ≤ ts.length) (hok : ∀ l, PRok l (typ l)) (him : i ≤ m) (hz : plT ts.length (mAtom typ (ts.drop i)) ≤ m) : RelT ts ts' (mAtom typ (ts.drop i)) (mAtom typ' (ts'.drop i)) := by
  have leaf : ∀ {k : Nat} {s : List UInt8} {x : Int}, hit k s (ts.drop i) = true → RelT ts ts' (.ok (.leaf x, (ts.drop i).tail)) (.ok (.leaf x, (ts'.drop i).tail)) := fun h => by
    have h1 := hit_lt h
    have h2 := agLt hA him h1
    exact ⟨i + 1, drop_tail, h1, h2, by rw [drop_tail]⟩
  unfold mAtom at hz ⊢
  simp only [agHit hA him]
  by_cases h1 : hit 2 tkInt (ts.drop i) = true
  · rw [if_pos h1, if_pos h1]; exact leaf h1
  rw [if_neg h1, if_neg h1]; rw [if_neg h1] at hz
  by_cases h2 : hit 2 tkBool (ts.drop i) = true
  · rw [if_pos h2, if_pos h2]; exact leaf h2
  rw [if_neg h2, if_neg h2]; rw [if_neg h2] at hz
  by_cases h3 : hit 2 tkString (ts.drop i) = true
  · rw [if_pos h3, if_pos h3]; exact leaf h3
  rw [if_neg h3, if_neg h3]; rw [if_neg h3] at hz
  by_cases h4 : hit 2 tkUnit (ts.drop i) = true
  · rw [if_pos h4, if_pos h4]; exact leaf h4
  rw [if_neg h4, if_neg h4]; rw [if_neg h4] at hz
  by_cases h5 : hit 5 [63] (ts.drop i) = true
  · rw [if_pos h5, if_pos h5]; exact leaf h5
  rw [if_neg h5, if_neg h5]; rw [if_neg h5] at hz
  by_cases h6 : hit 5 [40] (ts.drop i) = true
  · rw [if_pos h6, if_pos h6]; rw [if_pos h6] at hz
    have hl := hit_lt h6
    rw [drop_tail] at hz ⊢
    rw [drop_tail]
    have hp := hok (ts.drop (i + 1))
    rcases hx : typ (ts.drop (i + 1)) with c | ⟨t, r⟩
    · rw [hx] at hz
      have := hT (i + 1) (by omega) hl (by rw [hx]; exact hz)
      rw [hx] at this
      obtain ⟨c', h7, h8⟩ := this
      simp only [h7]
      exact ⟨c', rfl, h8⟩
    · rw [hx] at hz hp
      simp only at hz
      obtain ⟨k, hk1, hk2, rfl⟩ : ∃ k, i + 1 < k ∧ k ≤ ts.length ∧ r = ts.drop k := by
        obtain ⟨h9, j, hj⟩ := hp
        rw [List.drop_drop] at hj
        rw [List.length_drop] at h9
        have : r.length = ts.length - (i + 1 + j) := by rw [hj, List.length_drop]
        rcases Nat.lt_or_ge ts.length (i + 1 + j) with hq | hq
        · exact ⟨ts.length, by omega, Nat.le_refl _, by rw [hj, List.drop_eq_nil_of_le (by omega), List.drop_eq_nil_of_le (by omega)]⟩
        · exact ⟨i + 1 + j, by omega, hq, hj⟩
      rcases h10 : hit 5 [41] (ts.drop k) with _ | _
      · simp only [h10, Bool.false_eq_true, if_false] at hz ⊢
        have hkm : k ≤ m := by
          have : plT ts.length (.error (ts.drop k).length) ≤ m := hz
          simp only [plT, len_drop hk2] at this; exact this
        have := hT (i + 1) (by omega) hl (by rw [hx]; simp only [plT, len_drop hk2]; exact hkm)
        rw [hx] at this
        obtain ⟨k', h11, h12, h13, h14⟩ := this
        have hkk : k' = k := by
          have := congrArg List.length h11
          rw [List.length_drop, List.length_drop] at this; omega
        subst hkk
        simp only [h14, agHit hA hkm, h10, Bool.false_eq_true, if_false]
        exact ⟨_, rfl, by rw [len_drop h13, len_drop hk2]⟩
      · simp only [h10, if_true] at hz ⊢
        have hk3 := hit_lt h10
        rw [drop_tail] at hz ⊢
        have hkm : k + 1 ≤ m := by
          simp only [plT, len_drop (show k + 1 ≤ ts.length from hk3)] at hz; exact hz
        have := hT (i + 1) (by omega) hl (by rw [hx]; simp only [plT, len_drop hk2]; omega)
        rw [hx] at this
        obtain ⟨k', h11, h12, h13, h14⟩ := this
        have hkk : k' = k := by
          have := congrArg List.length h11
          rw [List.length_drop, List.length_drop] at this; omega
        subst hkk
        simp only [h14, agHit hA (show k' ≤ m by omega), h10, if_true]
        exact ⟨k' + 1, rfl, hk3, agLt hA (by omega) hk3, by rw [drop_tail]⟩
  · rw [if_neg h6, if_neg h6]; rw [if_neg h6] at hz
    have := len_drop hi
    refine ⟨_, rfl, ?_⟩
    rw [this]
    rcases Nat.lt_or_ge ts'.length i with h | h
    · rw [List.length_drop]
      exfalso
      rcases Nat.eq_or_lt_of_le (show 0 ≤ i by omega) with h0 | h0
      · omega
      · have := @agLt ts ts' m hA (i - 1) (by omega) (by omega); omega
    · exact len_drop h
omit hA in
theorem plT_ge {i : Nat} {x : PR Ty} (h : PRok (ts.drop i) x) (hi : i ≤ ts.length) : i ≤ plT ts.length x := by
  rcases x with c | ⟨t, r⟩
  · have h1 : c ≤ (ts.drop i).length := h
    rw [List.length_drop] at h1
    show i ≤ ts.length - c; omega
  · have h1 := h.1
    rw [List.length_drop] at h1
    show i ≤ ts.length - r.length; omega
omit hA in
theorem same_k {k k' : Nat} (h : ts.drop k = ts.drop k') (h1 : k ≤ ts.length) (h2 : k' ≤ ts.length) : k' = k := by
  have := congrArg List.length h
  rw [List.length_drop, List.length_drop] at this; omega
omit hA in
theorem mLists_len : ∀ (l : List Tok) (t : Ty), (mLists t l).2.length ≤ l.length
  | [], t => Nat.le_refl _
  | x :: r, t => by
    rw [mLists]
    split
    · exact Nat.le_trans (mLists_len r _) (Nat.le_succ _)
    · exact Nat.le_refl _
theorem mLists_ag : ∀ (d : Nat) (t : Ty) (i : Nat), ts.length - i ≤ d → i ≤ ts.length → i ≤ ts'.length → ts.length - (mLists t (ts.drop i)).2.length ≤ m → ∃ u k, i ≤ k ∧ k ≤ ts.length ∧ k ≤ ts'.length ∧ mLists t (ts.drop i) = (u, ts.drop k) ∧ mLists t (ts'.drop i) = (u, ts'.drop k) := by
  intro d
  induction d with
  | zero =>
    intro t i hd hi hi' hz
    have hmiss : hit 2 tkList (ts.drop i) = false := by rw [List.drop_eq_nil_of_le (by omega)]; rfl
    have him : i ≤ m := by rw [mLists_miss hmiss, len_drop hi] at hz; exact hz
    exact ⟨t, i, Nat.le_refl _, hi, hi', mLists_miss hmiss, mLists_miss ((agHit hA him).trans hmiss)⟩
  | succ d ih =>
    intro t i hd hi hi' hz
    have h0 := mLists_len (ts.drop i) t
    rw [List.length_drop] at h0
    have him : i ≤ m := by omega
    rcases h : hit 2 tkList (ts.drop i) with _ | _
    · exact ⟨t, i, Nat.le_refl _, hi, hi', mLists_miss h, mLists_miss ((agHit hA him).trans h)⟩
    · have hl := hit_lt h
      have hl' := agLt hA him hl
      rw [mLists_hit h, drop_tail] at hz ⊢
      rw [mLists_hit ((agHit hA him).trans h), drop_tail]
      obtain ⟨u, k, h1, h2⟩ := ih (.one 8 t) (i + 1) (by omega) hl hl' hz
      exact ⟨u, k, by omega, h2⟩
theorem mPost_ag {typ typ' : List Tok → PR Ty} {i : Nat} (hT : TyAg ts ts' m i typ typ') (hi : i ≤ ts.length) (hok : ∀ l, PRok l (typ l)) (him : i ≤ m) (hz : plT ts.length (mPost typ (ts.drop i)) ≤ m) : RelT ts ts' (mPost typ (ts.drop i)) (mPost typ' (ts'.drop i)) := by
  have hp := mAtom_ok hok (ts.drop i)
  unfold mPost at hz ⊢
  rcases hx : mAtom typ (ts.drop i) with c | ⟨t, r⟩
  · rw [hx] at hz
    have hR := mAtom_ag hA hT hi hok him (by rw [hx]; exact hz)
    rw [hx] at hR
    obtain ⟨c', h7, h8⟩ := hR
    simp only [h7]
    exact ⟨c', rfl, h8⟩
  · obtain ⟨k, hk1, hk2, rfl⟩ := ok_drop hp hx hi
    rw [hx] at hz
    simp only at hz
    have hlen := mLists_len (ts.drop k) t
    rw [List.length_drop] at hlen
    have hz2 : ts.length - (mLists t (ts.drop k)).2.length ≤ m := hz
    have hR := mAtom_ag hA hT hi hok him (by rw [hx]; simp only [plT, len_drop hk2]; omega)
    rw [hx] at hR
    obtain ⟨k', e1, e2, e3, e4⟩ := hR
    obtain rfl := same_k e1 hk2 e2
    simp only [e4]
    obtain ⟨u, kk, g1, g2, g3, g4, g5⟩ := mLists_ag hA _ t k' (Nat.le_refl _) hk2 e3 hz2
    rw [g4, g5]
    exact ⟨kk, rfl, g2, g3, rfl⟩
omit hA in
def bodT (s : List UInt8) (kk : Int) (x : PR Ty) (Y : List Tok → PR Ty) : PR Ty :=
  match x with
  | .error e => .error e
  | .ok (a, r) =>
    if hit 5 s r then
      match Y r.tail with
      | .error e => .error e
      | .ok (b, r') => .ok (.two kk a b, r')
    else .ok (a, r)
theorem two_ag {x x' : PR Ty} {Y Y' : List Tok → PR Ty} {s : List UInt8} {kk : Int} {i : Nat} (hi : i ≤ ts.length) (hx0 : PRok (ts.drop i) x) (hR0 : plT ts.length x ≤ m → RelT ts ts' x x') (hYok : ∀ l, PRok l (Y l))
    (hY : ∀ j, i < j → j ≤ ts.length → j ≤ m → plT ts.length (Y (ts.drop j)) ≤ m → RelT ts ts' (Y (ts.drop j)) (Y' (ts'.drop j))) (hz : plT ts.length (bodT s kk x Y) ≤ m) : RelT ts ts' (bodT s kk x Y) (bodT s kk x' Y') := by
  unfold bodT at hz ⊢
  rcases hx : x with c | ⟨t, r⟩
  · rw [hx] at hz
    have hR := hR0 (by rw [hx]; exact hz)
    rw [hx] at hR
    obtain ⟨c', h7, h8⟩ := hR
    simp only [h7]
    exact ⟨c', rfl, h8⟩
  · obtain ⟨k, hk1, hk2, rfl⟩ := ok_drop hx0 hx hi
    rw [hx] at hz
    simp only at hz ⊢
    rcases h : hit 5 s (ts.drop k) with _ | _
    · simp only [h, Bool.false_eq_true, if_false] at hz ⊢
      have hkm : k ≤ m := by simp only [plT, len_drop hk2] at hz; exact hz
      have hR := hR0 (by rw [hx]; simp only [plT, len_drop hk2]; exact hkm)
      rw [hx] at hR
      obtain ⟨k', e1, e2, e3, e4⟩ := hR
      obtain rfl := same_k e1 hk2 e2
      simp only [e4, agHit hA hkm, h, Bool.false_eq_true, if_false]
      exact ⟨k', rfl, hk2, e3, rfl⟩
    · simp only [h, if_true] at hz ⊢
      have hl := hit_lt h
      rw [drop_tail] at hz ⊢
      have hge := plT_ge (hYok (ts.drop (k + 1))) hl
      have hYz : plT ts.length (Y (ts.drop (k + 1))) ≤ m := by
        rcases hy : Y (ts.drop (k + 1)) with c | ⟨b, r'⟩
        · rw [hy] at hz; exact hz
        · rw [hy] at hz; exact hz
      have hR := hR0 (by rw [hx]; simp only [plT, len_drop hk2]; omega)
      rw [hx] at hR
      obtain ⟨k', e1, e2, e3, e4⟩ := hR
      obtain rfl := same_k e1 hk2 e2
      simp only [e4, agHit hA (show k' ≤ m by omega), h, if_true]
      rw [drop_tail]
      have hR2 := hY (k' + 1) (by omega) hl (by omega) hYz
      rcases hy : Y (ts.drop (k' + 1)) with c | ⟨b, r'⟩
      · rw [hy] at hR2
        obtain ⟨c', h7, h8⟩ := hR2
        simp only [h7]
        exact ⟨c', rfl, h8⟩
      · rw [hy] at hR2
        obtain ⟨q, f1, f2, f3, f4⟩ := hR2
        simp only [f4]
        exact ⟨q, f1, f2, f3, rfl⟩
theorem mProd_ag {typ typ' : List Tok → PR Ty} {i : Nat} (hT : TyAg ts ts' m i typ typ') (hi : i ≤ ts.length) (hok : ∀ l, PRok l (typ l)) (him : i ≤ m) (hz : plT ts.length (mProd typ (ts.drop i)) ≤ m) : RelT ts ts' (mProd typ (ts.drop i)) (mProd typ' (ts'.drop i)) :=
  two_ag hA (s := [42]) (kk := 7) (x := mPost typ (ts.drop i)) (x' := mPost typ' (ts'.drop i)) (Y := mPost typ) (Y' := mPost typ') hi (mPost_ok hok _) (fun h => mPost_ag hA hT hi hok him h) (fun l => mPost_ok hok l)
    (fun j h1 h2 h3 h4 => mPost_ag hA (fun j' g1 g2 g3 => hT j' (by omega) g2 g3) h2 hok h3 h4) hz
theorem mTypF_ag : ∀ (f f' : Nat) (i : Nat), i ≤ ts.length → i ≤ m → ts.length - i < f → ts'.length - i < f' → plT ts.length (mTypF f (ts.drop i)) ≤ m → RelT ts ts' (mTypF f (ts.drop i)) (mTypF f' (ts'.drop i))
  | 0, _, _, _, _, h, _, _ => absurd h (Nat.not_lt_zero _)
  | _, 0, _, _, _, _, h, _ => absurd h (Nat.not_lt_zero _)
  | f + 1, f' + 1, i, hi, him, hf, hf', hz => by
    have hT : TyAg ts ts' m i (mTypF f) (mTypF f') := fun j h1 h2 h3 => by
      have := plT_ge (mTypF_ok f (ts.drop j)) h2
      have := @agLt ts ts' m hA i him (by omega)
      exact mTypF_ag f f' j h2 (by omega) (by omega) (by omega) h3
    exact two_ag hA (s := [45, 62]) (kk := 9) (x := mProd (mTypF f) (ts.drop i)) (x' := mProd (mTypF f') (ts'.drop i)) (Y := mTypF f) (Y' := mTypF f') hi (mProd_ok (mTypF_ok f) _) (fun h => mProd_ag hA hT hi (mTypF_ok f) him h) (mTypF_ok f)
      (fun j h1 h2 h3 h4 => hT j h1 h2 h4) hz
theorem qTyp_ag (i : Nat) (hi : i ≤ ts.length) : plQ (qTyp ts i) ≤ m → qTyp ts' i = qTyp ts i := by
  intro hz0
  have hge := plGe (qTyp_ok ts i hi)
  have hok := mTypF_ok ((ts.drop i).length + 1) (ts.drop i)
  have hR : ∀ us : List Tok, i ≤ us.length → mRead us i = (match mTyp (us.drop i) with
    | .ok (t, r) => (t, ((us.length - r.length : Nat) : Int), 0)
    | .error k => (.leaf 0, ((us.length - k : Nat) : Int), 3)) := fun us h => by
    unfold mRead
    rw [if_neg (by omega), Int.toNat_natCast]
    rfl
  have hi' : i ≤ ts'.length := by
    rcases Nat.eq_or_lt_of_le (Nat.zero_le i) with h0 | h0
    · omega
    · have := @agLt ts ts' m hA (i - 1) (by omega) (by omega); omega
  have key : plT ts.length (mTypF ((ts.drop i).length + 1) (ts.drop i)) ≤ m → qTyp ts' i = qTyp ts i := fun hz => by
    have hA2 := mTypF_ag hA ((ts.drop i).length + 1) ((ts'.drop i).length + 1) i hi (by omega) (by rw [List.length_drop]; omega) (by rw [List.length_drop]; omega) hz
    unfold qTyp
    rw [hR ts hi, hR ts' hi', mTyp, mTyp]
    rcases hx : mTypF ((ts.drop i).length + 1) (ts.drop i) with c | ⟨t, r⟩
    · rw [hx] at hA2
      obtain ⟨c', h7, h8⟩ := hA2
      simp only [h7, h8]
    · obtain ⟨k, hk1, hk2, rfl⟩ := ok_drop hok hx hi
      rw [hx] at hA2
      obtain ⟨k', e1, e2, e3, e4⟩ := hA2
      obtain rfl := same_k e1 hk2 e2
      simp only [e4, len_drop hk2, len_drop e3]
  refine key ?_
  unfold qTyp at hz0
  rw [hR ts hi, mTyp] at hz0
  rcases hx : mTypF ((ts.drop i).length + 1) (ts.drop i) with c | ⟨t, r⟩
  · rw [hx] at hz0
    exact hz0
  · rw [hx] at hz0
    exact hz0
theorem qMaybe_ag (i : Nat) (hi : i ≤ ts.length) : plQ (qMaybe ts i) ≤ m → qMaybe ts' i = qMaybe ts i := by
  unfold qMaybe
  rcases h2 : at? ts i 5 [58] with _ | _
  · simp only [Bool.false_eq_true, if_false]
    intro hz
    have hz : i ≤ m := hz
    have gh2 := (agA hA (by omega)).trans h2
    simp only [gh2, if_true, if_false, Bool.false_eq_true, agF hA (i := i) (by omega), agS hA (i := i) (by omega), agN hA (i := i) (by omega), agE hA (i := i) (by omega), agE hA (i := i + 1) (by omega)]
  · simp only [if_true]
    have := atl h2
    have k3 := qTyp_ok ts (i + 1) (by omega)
    rcases h3 : qTyp ts (i + 1) with ⟨e, q⟩ | ⟨t, j⟩
    · obtain ⟨_, _, _⟩ := okE k3 h3
      intro hz
      have hz : e ≤ m := hz
      have gh2 := (agA hA (by omega)).trans h2
      have gh3 := (qTyp_ag hA (i + 1) (by omega) (by rw [h3]; show e ≤ m; omega)).trans h3
      simp only [gh2, gh3, if_true, if_false, Bool.false_eq_true, agF hA (i := i) (by omega), agS hA (i := i) (by omega), agN hA (i := i) (by omega), agE hA (i := e) (by omega), agE hA (i := e + 1) (by omega)]
    · obtain ⟨_, _⟩ := okO k3 h3
      try simp only
      intro hz
      have hz : j ≤ m := hz
      have gh2 := (agA hA (by omega)).trans h2
      have gh3 := (qTyp_ag hA (i + 1) (by omega) (by rw [h3]; show j ≤ m; omega)).trans h3
      simp only [gh2, gh3, if_true, if_false, Bool.false_eq_true, agF hA (i := i) (by omega), agS hA (i := i) (by omega), agN hA (i := i) (by omega), agE hA (i := j) (by omega), agE hA (i := j + 1) (by omega)]
theorem qParam_ag (i : Nat) (hi : i ≤ ts.length) : plQ (qParam ts i) ≤ m → qParam ts' i = qParam ts i := by
  unfold qParam
  rcases h4 : at? ts i 5 [40] with _ | _
  · simp only [Bool.false_eq_true, if_false]
    have k5 := qName_ok ts i (by omega)
    rcases h5 : qName ts i with ⟨e, q⟩ | ⟨s, j⟩
    · obtain ⟨_, _, _⟩ := okE k5 h5
      intro hz
      have hz : e ≤ m := hz
      have gh4 := (agA hA (by omega)).trans h4
      have gh5 := (qName_ag hA i (by omega) (by rw [h5]; show e ≤ m; omega)).trans h5
      simp only [gh4, gh5, if_true, if_false, Bool.false_eq_true, agF hA (i := i) (by omega), agS hA (i := i) (by omega), agN hA (i := i) (by omega), agE hA (i := e) (by omega), agE hA (i := e + 1) (by omega)]
    · obtain ⟨_, _⟩ := okO k5 h5
      try simp only
      intro hz
      have hz : j ≤ m := hz
      have gh4 := (agA hA (by omega)).trans h4
      have gh5 := (qName_ag hA i (by omega) (by rw [h5]; show j ≤ m; omega)).trans h5
      simp only [gh4, gh5, if_true, if_false, Bool.false_eq_true, agF hA (i := i) (by omega), agS hA (i := i) (by omega), agN hA (i := i) (by omega), agE hA (i := j) (by omega), agE hA (i := j + 1) (by omega)]
  · simp only [if_true]
    have := atl h4
    have k6 := qName_ok ts (i + 1) (by omega)
    rcases h6 : qName ts (i + 1) with ⟨e, q⟩ | ⟨s, j⟩
    · obtain ⟨_, _, _⟩ := okE k6 h6
      intro hz
      have hz : e ≤ m := hz
      have gh4 := (agA hA (by omega)).trans h4
      have gh6 := (qName_ag hA (i + 1) (by omega) (by rw [h6]; show e ≤ m; omega)).trans h6
      simp only [gh4, gh6, if_true, if_false, Bool.false_eq_true, agF hA (i := i) (by omega), agS hA (i := i) (by omega), agN hA (i := i) (by omega), agE hA (i := e) (by omega), agE hA (i := e + 1) (by omega)]
    · obtain ⟨_, _⟩ := okO k6 h6
      try simp only
      rcases h7 : at? ts j 5 [58] with _ | _
      · simp only [Bool.false_eq_true, if_false]
        intro hz
        have hz : j ≤ m := hz
        have gh4 := (agA hA (by omega)).trans h4
        have gh6 := (qName_ag hA (i + 1) (by omega) (by rw [h6]; show j ≤ m; omega)).trans h6
        have gh7 := (agA hA (by omega)).trans h7
        simp only [gh4, gh6, gh7, if_true, if_false, Bool.false_eq_true, agF hA (i := i) (by omega), agS hA (i := i) (by omega), agN hA (i := i) (by omega), agE hA (i := j) (by omega), agE hA (i := j + 1) (by omega)]
      · simp only [if_true]
        have := atl h7
        have k8 := qTyp_ok ts (j + 1) (by omega)
        rcases h8 : qTyp ts (j + 1) with ⟨e, q⟩ | ⟨t, k⟩
        · obtain ⟨_, _, _⟩ := okE k8 h8
          intro hz
          have hz : e ≤ m := hz
          have gh4 := (agA hA (by omega)).trans h4
          have gh6 := (qName_ag hA (i + 1) (by omega) (by rw [h6]; show j ≤ m; omega)).trans h6
          have gh7 := (agA hA (by omega)).trans h7
          have gh8 := (qTyp_ag hA (j + 1) (by omega) (by rw [h8]; show e ≤ m; omega)).trans h8
          simp only [gh4, gh6, gh7, gh8, if_true, if_false, Bool.false_eq_true, agF hA (i := i) (by omega), agS hA (i := i) (by omega), agN hA (i := i) (by omega), agE hA (i := e) (by omega), agE hA (i := e + 1) (by omega)]
        · obtain ⟨_, _⟩ := okO k8 h8
          try simp only
          rcases h9 : at? ts k 5 [41] with _ | _
          · simp only [Bool.false_eq_true, if_false]
            intro hz
            have hz : k ≤ m := hz
            have gh4 := (agA hA (by omega)).trans h4
            have gh6 := (qName_ag hA (i + 1) (by omega) (by rw [h6]; show j ≤ m; omega)).trans h6
            have gh7 := (agA hA (by omega)).trans h7
            have gh8 := (qTyp_ag hA (j + 1) (by omega) (by rw [h8]; show k ≤ m; omega)).trans h8
            have gh9 := (agA hA (by omega)).trans h9
            simp only [gh4, gh6, gh7, gh8, gh9, if_true, if_false, Bool.false_eq_true, agF hA (i := i) (by omega), agS hA (i := i) (by omega), agN hA (i := i) (by omega), agE hA (i := k) (by omega), agE hA (i := k + 1) (by omega)]
          · simp only [if_true]
            have := atl h9
            intro hz
            have hz : (k + 1) ≤ m := hz
            have gh4 := (agA hA (by omega)).trans h4
            have gh6 := (qName_ag hA (i + 1) (by omega) (by rw [h6]; show j ≤ m; omega)).trans h6
            have gh7 := (agA hA (by omega)).trans h7
            have gh8 := (qTyp_ag hA (j + 1) (by omega) (by rw [h8]; show k ≤ m; omega)).trans h8
            have gh9 := (agA hA (by omega)).trans h9
            simp only [gh4, gh6, gh7, gh8, gh9, if_true, if_false, Bool.false_eq_true, agF hA (i := i) (by omega), agS hA (i := i) (by omega), agN hA (i := i) (by omega), agE hA (i := (k + 1)) (by omega), agE hA (i := (k + 1) + 1) (by omega)]
end
section
variable {ts ts' : List Tok} {m : Nat} (hA : Agr ts ts' m) {pat pat' : List (List UInt8) → Nat → QR (Pa × List (List UInt8))} {b0 : Nat} (hx : ∀ s j, b0 < j → j ≤ ts.length → plQ (pat s j) ≤ m → pat' s j = pat s j) (hp : ∀ s j, j ≤ ts.length → QRok j ts.length (pat s j))
include hA hx hp
theorem qRing_ag (seen : List (List UInt8)) (i : Nat) (hb : b0 ≤ i) (hl : i < ts.length) (hi : i ≤ ts.length) : (i ≤ m → plQ (qRing ts pat seen i) ≤ m → qRing ts' pat' seen i = qRing ts pat seen i) := by
  intro him
  unfold qRing
  rcases h10 : at? ts (i + 1) 5 [41] with _ | _
  · simp only [Bool.false_eq_true, if_false]
    have k11 := hp seen (i + 1) (by omega)
    rcases h11 : pat seen (i + 1) with ⟨e, q⟩ | ⟨⟨a, seen1⟩, j⟩
    · obtain ⟨_, _, _⟩ := okE k11 h11
      intro hz
      have hz : e ≤ m := hz
      have gh10 := (agA hA (by omega)).trans h10
      have gh11 := (hx seen (i + 1) (by omega) (by omega) (by rw [h11]; show e ≤ m; omega)).trans h11
      simp only [gh10, gh11, if_true, if_false, Bool.false_eq_true, agF hA (i := i) (by omega), agS hA (i := i) (by omega), agN hA (i := i) (by omega), agE hA (i := e) (by omega), agE hA (i := e + 1) (by omega)]
    · obtain ⟨_, _⟩ := okO k11 h11
      try simp only
      rcases h12 : at? ts j 5 [41] with _ | _
      · simp only [Bool.false_eq_true, if_false]
        rcases h13 : at? ts j 5 [44] with _ | _
        · simp only [Bool.false_eq_true, if_false]
          intro hz
          have hz : j ≤ m := hz
          have gh10 := (agA hA (by omega)).trans h10
          have gh11 := (hx seen (i + 1) (by omega) (by omega) (by rw [h11]; show j ≤ m; omega)).trans h11
          have gh12 := (agA hA (by omega)).trans h12
          have gh13 := (agA hA (by omega)).trans h13
          simp only [gh10, gh11, gh12, gh13, if_true, if_false, Bool.false_eq_true, agF hA (i := i) (by omega), agS hA (i := i) (by omega), agN hA (i := i) (by omega), agE hA (i := j) (by omega), agE hA (i := j + 1) (by omega)]
        · simp only [if_true]
          have := atl h13
          have k14 := hp seen1 (j + 1) (by omega)
          rcases h14 : pat seen1 (j + 1) with ⟨e, q⟩ | ⟨⟨b, seen2⟩, k⟩
          · obtain ⟨_, _, _⟩ := okE k14 h14
            intro hz
            have hz : e ≤ m := hz
            have gh10 := (agA hA (by omega)).trans h10
            have gh11 := (hx seen (i + 1) (by omega) (by omega) (by rw [h11]; show j ≤ m; omega)).trans h11
            have gh12 := (agA hA (by omega)).trans h12
            have gh13 := (agA hA (by omega)).trans h13
            have gh14 := (hx seen1 (j + 1) (by omega) (by omega) (by rw [h14]; show e ≤ m; omega)).trans h14
            simp only [gh10, gh11, gh12, gh13, gh14, if_true, if_false, Bool.false_eq_true, agF hA (i := i) (by omega), agS hA (i := i) (by omega), agN hA (i := i) (by omega), agE hA (i := e) (by omega), agE hA (i := e + 1) (by omega)]
          · obtain ⟨_, _⟩ := okO k14 h14
            try simp only
            rcases h15 : at? ts k 5 [41] with _ | _
            · simp only [Bool.false_eq_true, if_false]
              intro hz
              have hz : k ≤ m := hz
              have gh10 := (agA hA (by omega)).trans h10
              have gh11 := (hx seen (i + 1) (by omega) (by omega) (by rw [h11]; show j ≤ m; omega)).trans h11
              have gh12 := (agA hA (by omega)).trans h12
              have gh13 := (agA hA (by omega)).trans h13
              have gh14 := (hx seen1 (j + 1) (by omega) (by omega) (by rw [h14]; show k ≤ m; omega)).trans h14
              have gh15 := (agA hA (by omega)).trans h15
              simp only [gh10, gh11, gh12, gh13, gh14, gh15, if_true, if_false, Bool.false_eq_true, agF hA (i := i) (by omega), agS hA (i := i) (by omega), agN hA (i := i) (by omega), agE hA (i := k) (by omega), agE hA (i := k + 1) (by omega)]
            · simp only [if_true]
              have := atl h15
              intro hz
              have hz : (k + 1) ≤ m := hz
              have gh10 := (agA hA (by omega)).trans h10
              have gh11 := (hx seen (i + 1) (by omega) (by omega) (by rw [h11]; show j ≤ m; omega)).trans h11
              have gh12 := (agA hA (by omega)).trans h12
              have gh13 := (agA hA (by omega)).trans h13
              have gh14 := (hx seen1 (j + 1) (by omega) (by omega) (by rw [h14]; show k ≤ m; omega)).trans h14
              have gh15 := (agA hA (by omega)).trans h15
              simp only [gh10, gh11, gh12, gh13, gh14, gh15, if_true, if_false, Bool.false_eq_true, agF hA (i := i) (by omega), agS hA (i := i) (by omega), agN hA (i := i) (by omega), agE hA (i := (k + 1)) (by omega), agE hA (i := (k + 1) + 1) (by omega)]
      · simp only [if_true]
        have := atl h12
        intro hz
        have hz : (j + 1) ≤ m := hz
        have gh10 := (agA hA (by omega)).trans h10
        have gh11 := (hx seen (i + 1) (by omega) (by omega) (by rw [h11]; show j ≤ m; omega)).trans h11
        have gh12 := (agA hA (by omega)).trans h12
        simp only [gh10, gh11, gh12, if_true, if_false, Bool.false_eq_true, agF hA (i := i) (by omega), agS hA (i := i) (by omega), agN hA (i := i) (by omega), agE hA (i := (j + 1)) (by omega), agE hA (i := (j + 1) + 1) (by omega)]
  · simp only [if_true]
    have := atl h10
    intro hz
    have hz : (i + 1 + 1) ≤ m := hz
    have gh10 := (agA hA (by omega)).trans h10
    simp only [gh10, if_true, if_false, Bool.false_eq_true, agF hA (i := i) (by omega), agS hA (i := i) (by omega), agN hA (i := i) (by omega), agE hA (i := (i + 1 + 1)) (by omega), agE hA (i := (i + 1 + 1) + 1) (by omega)]
theorem qRound_ag (seen : List (List UInt8)) (i : Nat) (hb : b0 ≤ i) (hl : i < ts.length) (hi : i ≤ ts.length) : plQ (qRound ts pat seen i) ≤ m → qRound ts' pat' seen i = qRound ts pat seen i := by
  unfold qRound
  rcases h16 : at? ts i 5 [91] with _ | _
  · simp only [Bool.false_eq_true, if_false]
    intro hz
    have hpl := Nat.le_trans (plGe (qRing_ok ts hp seen i hl hi)) hz
    have gh16 := (agA hA (by omega)).trans h16
    simp only [gh16, if_true, if_false, Bool.false_eq_true, agF hA (i := i) (by omega), agS hA (i := i) (by omega), agN hA (i := i) (by omega)]
    exact qRing_ag hA hx hp seen i hb hl hi (by omega) hz
  · simp only [if_true]
    have := atl h16
    rcases h17 : at? ts (i + 1) 5 [93] with _ | _
    · simp only [Bool.false_eq_true, if_false]
      intro hz
      have hz : (i + 1) ≤ m := hz
      have gh16 := (agA hA (by omega)).trans h16
      have gh17 := (agA hA (by omega)).trans h17
      simp only [gh16, gh17, if_true, if_false, Bool.false_eq_true, agF hA (i := i) (by omega), agS hA (i := i) (by omega), agN hA (i := i) (by omega), agE hA (i := (i + 1)) (by omega), agE hA (i := (i + 1) + 1) (by omega)]
    · simp only [if_true]
      have := atl h17
      intro hz
      have hz : (i + 1 + 1) ≤ m := hz
      have gh16 := (agA hA (by omega)).trans h16
      have gh17 := (agA hA (by omega)).trans h17
      simp only [gh16, gh17, if_true, if_false, Bool.false_eq_true, agF hA (i := i) (by omega), agS hA (i := i) (by omega), agN hA (i := i) (by omega), agE hA (i := (i + 1 + 1)) (by omega), agE hA (i := (i + 1 + 1) + 1) (by omega)]
theorem qPop_ag (seen : List (List UInt8)) (i : Nat) (hb : b0 ≤ i) (hi : i ≤ ts.length) : plQ (qPop ts pat seen i) ≤ m → qPop ts' pat' seen i = qPop ts pat seen i := by
  unfold qPop
  rcases h18 : at? ts i 5 [95] with _ | _
  · simp only [Bool.false_eq_true, if_false]
    rcases h19 : of? ts i 1 with _ | _
    · simp only [Bool.false_eq_true, if_false]
      rcases h20 : of? ts i 3 with _ | _
      · simp only [Bool.false_eq_true, if_false]
        rcases h21 : of? ts i 4 with _ | _
        · simp only [Bool.false_eq_true, if_false]
          rcases h22 : at? ts i 2 [116, 114, 117, 101] with _ | _
          · simp only [Bool.false_eq_true, if_false]
            rcases h23 : at? ts i 2 [102, 97, 108, 115, 101] with _ | _
            · simp only [Bool.false_eq_true, if_false]
              rcases h24 : (at? ts i 5 [91] || at? ts i 5 [40]) with _ | _
              · simp only [Bool.false_eq_true, if_false]
                intro hz
                have hz : i ≤ m := hz
                have gh18 := (agA hA (by omega)).trans h18
                have gh19 := (agO hA (by omega)).trans h19
                have gh20 := (agO hA (by omega)).trans h20
                have gh21 := (agO hA (by omega)).trans h21
                have gh22 := (agA hA (by omega)).trans h22
                have gh23 := (agA hA (by omega)).trans h23
                have gh24 : (at? ts' i 5 [91] || at? ts' i 5 [40]) = _ := (by rw [agA hA (by omega), agA hA (by omega)] : _ = (at? ts i 5 [91] || at? ts i 5 [40])).trans h24
                simp only [gh18, gh19, gh20, gh21, gh22, gh23, gh24, if_true, if_false, Bool.false_eq_true, agF hA (i := i) (by omega), agS hA (i := i) (by omega), agN hA (i := i) (by omega), qLeafP, agE hA (i := i) (by omega), agE hA (i := i + 1) (by omega)]
              · simp only [if_true]
                skip
                have hl : i < ts.length := (by rw [Bool.or_eq_true] at h24; exact h24.elim atl atl)
                intro hz
                have hpl := Nat.le_trans (plGe (qRound_ok ts hp seen i hl hi)) hz
                have gh18 := (agA hA (by omega)).trans h18
                have gh19 := (agO hA (by omega)).trans h19
                have gh20 := (agO hA (by omega)).trans h20
                have gh21 := (agO hA (by omega)).trans h21
                have gh22 := (agA hA (by omega)).trans h22
                have gh23 := (agA hA (by omega)).trans h23
                have gh24 : (at? ts' i 5 [91] || at? ts' i 5 [40]) = _ := (by rw [agA hA (by omega), agA hA (by omega)] : _ = (at? ts i 5 [91] || at? ts i 5 [40])).trans h24
                simp only [gh18, gh19, gh20, gh21, gh22, gh23, gh24, if_true, if_false, Bool.false_eq_true, agF hA (i := i) (by omega), agS hA (i := i) (by omega), agN hA (i := i) (by omega), qLeafP]
                exact qRound_ag hA hx hp seen i hb hl hi hz
            · simp only [if_true]
              have := atl h23
              intro hz
              have hz : (i + 1) ≤ m := hz
              have gh18 := (agA hA (by omega)).trans h18
              have gh19 := (agO hA (by omega)).trans h19
              have gh20 := (agO hA (by omega)).trans h20
              have gh21 := (agO hA (by omega)).trans h21
              have gh22 := (agA hA (by omega)).trans h22
              have gh23 := (agA hA (by omega)).trans h23
              simp only [gh18, gh19, gh20, gh21, gh22, gh23, if_true, if_false, Bool.false_eq_true, agF hA (i := i) (by omega), agS hA (i := i) (by omega), agN hA (i := i) (by omega), qLeafP, agE hA (i := (i + 1)) (by omega), agE hA (i := (i + 1) + 1) (by omega)]
          · simp only [if_true]
            have := atl h22
            intro hz
            have hz : (i + 1) ≤ m := hz
            have gh18 := (agA hA (by omega)).trans h18
            have gh19 := (agO hA (by omega)).trans h19
            have gh20 := (agO hA (by omega)).trans h20
            have gh21 := (agO hA (by omega)).trans h21
            have gh22 := (agA hA (by omega)).trans h22
            simp only [gh18, gh19, gh20, gh21, gh22, if_true, if_false, Bool.false_eq_true, agF hA (i := i) (by omega), agS hA (i := i) (by omega), agN hA (i := i) (by omega), qLeafP, agE hA (i := (i + 1)) (by omega), agE hA (i := (i + 1) + 1) (by omega)]
        · simp only [if_true]
          have := ofl h21
          intro hz
          have hz : (i + 1) ≤ m := hz
          have gh18 := (agA hA (by omega)).trans h18
          have gh19 := (agO hA (by omega)).trans h19
          have gh20 := (agO hA (by omega)).trans h20
          have gh21 := (agO hA (by omega)).trans h21
          simp only [gh18, gh19, gh20, gh21, if_true, if_false, Bool.false_eq_true, agF hA (i := i) (by omega), agS hA (i := i) (by omega), agN hA (i := i) (by omega), qLeafP, agE hA (i := (i + 1)) (by omega), agE hA (i := (i + 1) + 1) (by omega)]
      · simp only [if_true]
        have := ofl h20
        intro hz
        have hz : (i + 1) ≤ m := hz
        have gh18 := (agA hA (by omega)).trans h18
        have gh19 := (agO hA (by omega)).trans h19
        have gh20 := (agO hA (by omega)).trans h20
        simp only [gh18, gh19, gh20, if_true, if_false, Bool.false_eq_true, agF hA (i := i) (by omega), agS hA (i := i) (by omega), agN hA (i := i) (by omega), qLeafP, agE hA (i := (i + 1)) (by omega), agE hA (i := (i + 1) + 1) (by omega)]
    · simp only [if_true]
      have := ofl h19
      rcases h25 : seen.contains (strE ts i) with _ | _
      · simp only [Bool.false_eq_true, if_false]
        intro hz
        have hz : (i + 1) ≤ m := hz
        have gh18 := (agA hA (by omega)).trans h18
        have gh19 := (agO hA (by omega)).trans h19
        have gh25 := h25
        simp only [gh18, gh19, gh25, if_true, if_false, Bool.false_eq_true, agF hA (i := i) (by omega), agS hA (i := i) (by omega), agN hA (i := i) (by omega), qLeafP, agE hA (i := (i + 1)) (by omega), agE hA (i := (i + 1) + 1) (by omega)]
      · simp only [if_true]
        skip
        intro hz
        have hz : i ≤ m := hz
        have gh18 := (agA hA (by omega)).trans h18
        have gh19 := (agO hA (by omega)).trans h19
        have gh25 := h25
        simp only [gh18, gh19, gh25, if_true, if_false, Bool.false_eq_true, agF hA (i := i) (by omega), agS hA (i := i) (by omega), agN hA (i := i) (by omega), qLeafP, agE hA (i := i) (by omega), agE hA (i := i + 1) (by omega)]
  · simp only [if_true]
    have := atl h18
    intro hz
    have hz : (i + 1) ≤ m := hz
    have gh18 := (agA hA (by omega)).trans h18
    simp only [gh18, if_true, if_false, Bool.false_eq_true, agF hA (i := i) (by omega), agS hA (i := i) (by omega), agN hA (i := i) (by omega), qLeafP, agE hA (i := (i + 1)) (by omega), agE hA (i := (i + 1) + 1) (by omega)]
end
theorem qPatF_ag {ts ts' : List Tok} {m : Nat} (hA : Agr ts ts' m) : ∀ (f f' : Nat) (seen : List (List UInt8)) (i : Nat), i ≤ ts.length → ts.length - i < f → ts'.length - i < f' → plQ (qPatF ts f seen i) ≤ m → qPatF ts' f' seen i = qPatF ts f seen i
  | 0, _, _, _, _, h, _ => absurd h (Nat.not_lt_zero _)
  | _, 0, _, _, _, _, h => absurd h (Nat.not_lt_zero _)
  | f + 1, f' + 1, seen, i, hi, hf, hf' => by
    have hp := qPatF_ok ts f
    have hx : ∀ s j, i < j → j ≤ ts.length → plQ (qPatF ts f s j) ≤ m → qPatF ts' f' s j = qPatF ts f s j := fun s j h1 h2 h3 =>
      qPatF_ag hA f f' s j h2 (by omega) (by have := plGe (qPatF_ok ts f s j h2); have := @agLt ts ts' m hA i (by omega) (by omega); omega) h3
    unfold qPatF
    have k26 := qPop_ok ts hp seen i hi
    rcases h26 : qPop ts (qPatF ts f) seen i with ⟨e, q⟩ | ⟨⟨a, seen1⟩, j⟩
    · obtain ⟨_, _, _⟩ := okE k26 h26
      intro hz
      have hz : e ≤ m := hz
      have gh26 := (qPop_ag hA hx hp seen i (Nat.le_refl _) hi (by rw [h26]; show e ≤ m; omega)).trans h26
      simp only [gh26, if_true, if_false, Bool.false_eq_true, agF hA (i := i) (by omega), agS hA (i := i) (by omega), agN hA (i := i) (by omega), agE hA (i := e) (by omega), agE hA (i := e + 1) (by omega)]
    · obtain ⟨_, _⟩ := okO k26 h26
      try simp only
      rcases h27 : at? ts j 5 [58, 58] with _ | _
      · simp only [Bool.false_eq_true, if_false]
        intro hz
        have hz : j ≤ m := hz
        have gh26 := (qPop_ag hA hx hp seen i (Nat.le_refl _) hi (by rw [h26]; show j ≤ m; omega)).trans h26
        have gh27 := (agA hA (by omega)).trans h27
        simp only [gh26, gh27, if_true, if_false, Bool.false_eq_true, agF hA (i := i) (by omega), agS hA (i := i) (by omega), agN hA (i := i) (by omega), agE hA (i := j) (by omega), agE hA (i := j + 1) (by omega)]
      · simp only [if_true]
        have := atl h27
        have k28 := hp seen1 (j + 1) (by omega)
        rcases h28 : qPatF ts f seen1 (j + 1) with ⟨e, q⟩ | ⟨⟨b, seen2⟩, k⟩
        · obtain ⟨_, _, _⟩ := okE k28 h28
          intro hz
          have hz : e ≤ m := hz
          have gh26 := (qPop_ag hA hx hp seen i (Nat.le_refl _) hi (by rw [h26]; show j ≤ m; omega)).trans h26
          have gh27 := (agA hA (by omega)).trans h27
          have gh28 := (hx seen1 (j + 1) (by omega) (by omega) (by rw [h28]; show e ≤ m; omega)).trans h28
          simp only [gh26, gh27, gh28, if_true, if_false, Bool.false_eq_true, agF hA (i := i) (by omega), agS hA (i := i) (by omega), agN hA (i := i) (by omega), agE hA (i := e) (by omega), agE hA (i := e + 1) (by omega)]
        · obtain ⟨_, _⟩ := okO k28 h28
          try simp only
          intro hz
          have hz : k ≤ m := hz
          have gh26 := (qPop_ag hA hx hp seen i (Nat.le_refl _) hi (by rw [h26]; show j ≤ m; omega)).trans h26
          have gh27 := (agA hA (by omega)).trans h27
          have gh28 := (hx seen1 (j + 1) (by omega) (by omega) (by rw [h28]; show k ≤ m; omega)).trans h28
          simp only [gh26, gh27, gh28, if_true, if_false, Bool.false_eq_true, agF hA (i := i) (by omega), agS hA (i := i) (by omega), agN hA (i := i) (by omega), agE hA (i := k) (by omega), agE hA (i := k + 1) (by omega)]
section
variable {ts ts' : List Tok} {m : Nat} (hA : Agr ts ts' m) {ex ex' : Nat → QR Ex} {b0 : Nat} (hx : ∀ j, b0 < j → j ≤ ts.length → plQ (ex j) ≤ m → ex' j = ex j) (he : ∀ j, j ≤ ts.length → QRok j ts.length (ex j))
include hA hx he
theorem qParen_ag (i : Nat) (hb : b0 ≤ i) (hl : i < ts.length) (hi : i ≤ ts.length) : plQ (qParen ts ex i) ≤ m → qParen ts' ex' i = qParen ts ex i := by
  unfold qParen
  have k29 := he (i + 1) (by omega)
  rcases h29 : ex (i + 1) with ⟨e, q⟩ | ⟨a, j⟩
  · obtain ⟨_, _, _⟩ := okE k29 h29
    intro hz
    have hz : e ≤ m := hz
    have gh29 := (hx (i + 1) (by omega) (by omega) (by rw [h29]; show e ≤ m; omega)).trans h29
    simp only [gh29, if_true, if_false, Bool.false_eq_true, agF hA (i := i) (by omega), agS hA (i := i) (by omega), agN hA (i := i) (by omega), agE hA (i := e) (by omega), agE hA (i := e + 1) (by omega)]
  · obtain ⟨_, _⟩ := okO k29 h29
    try simp only
    rcases h30 : at? ts j 5 [41] with _ | _
    · simp only [Bool.false_eq_true, if_false]
      rcases h31 : at? ts j 5 [44] with _ | _
      · simp only [Bool.false_eq_true, if_false]
        rcases h32 : at? ts j 5 [58] with _ | _
        · simp only [Bool.false_eq_true, if_false]
          intro hz
          have hz : j ≤ m := hz
          have gh29 := (hx (i + 1) (by omega) (by omega) (by rw [h29]; show j ≤ m; omega)).trans h29
          have gh30 := (agA hA (by omega)).trans h30
          have gh31 := (agA hA (by omega)).trans h31
          have gh32 := (agA hA (by omega)).trans h32
          simp only [gh29, gh30, gh31, gh32, if_true, if_false, Bool.false_eq_true, agF hA (i := i) (by omega), agS hA (i := i) (by omega), agN hA (i := i) (by omega), agE hA (i := j) (by omega), agE hA (i := j + 1) (by omega)]
        · simp only [if_true]
          have := atl h32
          have k33 := qTyp_ok ts (j + 1) (by omega)
          rcases h33 : qTyp ts (j + 1) with ⟨e, q⟩ | ⟨t, k⟩
          · obtain ⟨_, _, _⟩ := okE k33 h33
            intro hz
            have hz : e ≤ m := hz
            have gh29 := (hx (i + 1) (by omega) (by omega) (by rw [h29]; show j ≤ m; omega)).trans h29
            have gh30 := (agA hA (by omega)).trans h30
            have gh31 := (agA hA (by omega)).trans h31
            have gh32 := (agA hA (by omega)).trans h32
            have gh33 := (qTyp_ag hA (j + 1) (by omega) (by rw [h33]; show e ≤ m; omega)).trans h33
            simp only [gh29, gh30, gh31, gh32, gh33, if_true, if_false, Bool.false_eq_true, agF hA (i := i) (by omega), agS hA (i := i) (by omega), agN hA (i := i) (by omega), agE hA (i := e) (by omega), agE hA (i := e + 1) (by omega)]
          · obtain ⟨_, _⟩ := okO k33 h33
            try simp only
            rcases h34 : at? ts k 5 [41] with _ | _
            · simp only [Bool.false_eq_true, if_false]
              intro hz
              have hz : k ≤ m := hz
              have gh29 := (hx (i + 1) (by omega) (by omega) (by rw [h29]; show j ≤ m; omega)).trans h29
              have gh30 := (agA hA (by omega)).trans h30
              have gh31 := (agA hA (by omega)).trans h31
              have gh32 := (agA hA (by omega)).trans h32
              have gh33 := (qTyp_ag hA (j + 1) (by omega) (by rw [h33]; show k ≤ m; omega)).trans h33
              have gh34 := (agA hA (by omega)).trans h34
              simp only [gh29, gh30, gh31, gh32, gh33, gh34, if_true, if_false, Bool.false_eq_true, agF hA (i := i) (by omega), agS hA (i := i) (by omega), agN hA (i := i) (by omega), agE hA (i := k) (by omega), agE hA (i := k + 1) (by omega)]
            · simp only [if_true]
              have := atl h34
              intro hz
              have hz : (k + 1) ≤ m := hz
              have gh29 := (hx (i + 1) (by omega) (by omega) (by rw [h29]; show j ≤ m; omega)).trans h29
              have gh30 := (agA hA (by omega)).trans h30
              have gh31 := (agA hA (by omega)).trans h31
              have gh32 := (agA hA (by omega)).trans h32
              have gh33 := (qTyp_ag hA (j + 1) (by omega) (by rw [h33]; show k ≤ m; omega)).trans h33
              have gh34 := (agA hA (by omega)).trans h34
              simp only [gh29, gh30, gh31, gh32, gh33, gh34, if_true, if_false, Bool.false_eq_true, agF hA (i := i) (by omega), agS hA (i := i) (by omega), agN hA (i := i) (by omega), agE hA (i := (k + 1)) (by omega), agE hA (i := (k + 1) + 1) (by omega)]
      · simp only [if_true]
        have := atl h31
        have k35 := he (j + 1) (by omega)
        rcases h35 : ex (j + 1) with ⟨e, q⟩ | ⟨b, k⟩
        · obtain ⟨_, _, _⟩ := okE k35 h35
          intro hz
          have hz : e ≤ m := hz
          have gh29 := (hx (i + 1) (by omega) (by omega) (by rw [h29]; show j ≤ m; omega)).trans h29
          have gh30 := (agA hA (by omega)).trans h30
          have gh31 := (agA hA (by omega)).trans h31
          have gh35 := (hx (j + 1) (by omega) (by omega) (by rw [h35]; show e ≤ m; omega)).trans h35
          simp only [gh29, gh30, gh31, gh35, if_true, if_false, Bool.false_eq_true, agF hA (i := i) (by omega), agS hA (i := i) (by omega), agN hA (i := i) (by omega), agE hA (i := e) (by omega), agE hA (i := e + 1) (by omega)]
        · obtain ⟨_, _⟩ := okO k35 h35
          try simp only
          rcases h36 : at? ts k 5 [41] with _ | _
          · simp only [Bool.false_eq_true, if_false]
            intro hz
            have hz : k ≤ m := hz
            have gh29 := (hx (i + 1) (by omega) (by omega) (by rw [h29]; show j ≤ m; omega)).trans h29
            have gh30 := (agA hA (by omega)).trans h30
            have gh31 := (agA hA (by omega)).trans h31
            have gh35 := (hx (j + 1) (by omega) (by omega) (by rw [h35]; show k ≤ m; omega)).trans h35
            have gh36 := (agA hA (by omega)).trans h36
            simp only [gh29, gh30, gh31, gh35, gh36, if_true, if_false, Bool.false_eq_true, agF hA (i := i) (by omega), agS hA (i := i) (by omega), agN hA (i := i) (by omega), agE hA (i := k) (by omega), agE hA (i := k + 1) (by omega)]
          · simp only [if_true]
            have := atl h36
            intro hz
            have hz : (k + 1) ≤ m := hz
            have gh29 := (hx (i + 1) (by omega) (by omega) (by rw [h29]; show j ≤ m; omega)).trans h29
            have gh30 := (agA hA (by omega)).trans h30
            have gh31 := (agA hA (by omega)).trans h31
            have gh35 := (hx (j + 1) (by omega) (by omega) (by rw [h35]; show k ≤ m; omega)).trans h35
            have gh36 := (agA hA (by omega)).trans h36
            simp only [gh29, gh30, gh31, gh35, gh36, if_true, if_false, Bool.false_eq_true, agF hA (i := i) (by omega), agS hA (i := i) (by omega), agN hA (i := i) (by omega), agE hA (i := (k + 1)) (by omega), agE hA (i := (k + 1) + 1) (by omega)]
    · simp only [if_true]
      have := atl h30
      intro hz
      have hz : (j + 1) ≤ m := hz
      have gh29 := (hx (i + 1) (by omega) (by omega) (by rw [h29]; show j ≤ m; omega)).trans h29
      have gh30 := (agA hA (by omega)).trans h30
      simp only [gh29, gh30, if_true, if_false, Bool.false_eq_true, agF hA (i := i) (by omega), agS hA (i := i) (by omega), agN hA (i := i) (by omega), agE hA (i := (j + 1)) (by omega), agE hA (i := (j + 1) + 1) (by omega)]
omit hA hx in
theorem qParen_ok1 (i : Nat) (hb : i < ts.length) : QRok (i + 1) ts.length (qParen ts ex i) := by
  unfold qParen
  have k96 := he (i + 1) (by omega)
  rcases h96 : ex (i + 1) with ⟨e, q⟩ | ⟨a, j⟩
  · obtain ⟨_, _, _⟩ : (i + 1) ≤ e ∧ e ≤ ts.length ∧ q ≤ ts.length := by rw [h96] at k96; exact k96
    exact ⟨by omega, by omega, by omega⟩
  · obtain ⟨_, _⟩ : (i + 1) < j ∧ j ≤ ts.length := by rw [h96] at k96; exact k96
    try simp only
    rcases h97 : at? ts j 5 [41] with _ | _
    · simp only [Bool.false_eq_true, if_false]
      rcases h98 : at? ts j 5 [44] with _ | _
      · simp only [Bool.false_eq_true, if_false]
        rcases h99 : at? ts j 5 [58] with _ | _
        · simp only [Bool.false_eq_true, if_false]
          first | exact ⟨by omega, by omega, by omega⟩ | exact ⟨by omega, by omega⟩
        · simp only [if_true]
          have := atl h99
          have k100 := qTyp_ok ts (j + 1) (by omega)
          rcases h100 : qTyp ts (j + 1) with ⟨e, q⟩ | ⟨t, k⟩
          · obtain ⟨_, _, _⟩ : (j + 1) ≤ e ∧ e ≤ ts.length ∧ q ≤ ts.length := by rw [h100] at k100; exact k100
            exact ⟨by omega, by omega, by omega⟩
          · obtain ⟨_, _⟩ : (j + 1) < k ∧ k ≤ ts.length := by rw [h100] at k100; exact k100
            try simp only
            rcases h101 : at? ts k 5 [41] with _ | _
            · simp only [Bool.false_eq_true, if_false]
              first | exact ⟨by omega, by omega, by omega⟩ | exact ⟨by omega, by omega⟩
            · simp only [if_true]
              have := atl h101
              first | exact ⟨by omega, by omega, by omega⟩ | exact ⟨by omega, by omega⟩
      · simp only [if_true]
        have := atl h98
        have k102 := he (j + 1) (by omega)
        rcases h102 : ex (j + 1) with ⟨e, q⟩ | ⟨b, k⟩
        · obtain ⟨_, _, _⟩ : (j + 1) ≤ e ∧ e ≤ ts.length ∧ q ≤ ts.length := by rw [h102] at k102; exact k102
          exact ⟨by omega, by omega, by omega⟩
        · obtain ⟨_, _⟩ : (j + 1) < k ∧ k ≤ ts.length := by rw [h102] at k102; exact k102
          try simp only
          rcases h103 : at? ts k 5 [41] with _ | _
          · simp only [Bool.false_eq_true, if_false]
            first | exact ⟨by omega, by omega, by omega⟩ | exact ⟨by omega, by omega⟩
          · simp only [if_true]
            have := atl h103
            first | exact ⟨by omega, by omega, by omega⟩ | exact ⟨by omega, by omega⟩
    · simp only [if_true]
      have := atl h97
      first | exact ⟨by omega, by omega, by omega⟩ | exact ⟨by omega, by omega⟩
theorem qRnd_ag (i : Nat) (hb : b0 ≤ i) (hl : i < ts.length) (hi : i ≤ ts.length) : plQ (qRnd ts ex i) ≤ m → qRnd ts' ex' i = qRnd ts ex i := by
  unfold qRnd
  rcases h37 : at? ts (i + 1) 5 [41] with _ | _
  · simp only [Bool.false_eq_true, if_false]
    intro hz
    have hpl := Nat.le_trans (plGe (qParen_ok1 he i hl)) hz
    have gh37 := (agA hA (by omega)).trans h37
    simp only [gh37, if_true, if_false, Bool.false_eq_true, agF hA (i := i) (by omega), agS hA (i := i) (by omega), agN hA (i := i) (by omega)]
    exact qParen_ag hA hx he i hb hl hi hz
  · simp only [if_true]
    have := atl h37
    intro hz
    have hz : (i + 1 + 1) ≤ m := hz
    have gh37 := (agA hA (by omega)).trans h37
    simp only [gh37, if_true, if_false, Bool.false_eq_true, agF hA (i := i) (by omega), agS hA (i := i) (by omega), agN hA (i := i) (by omega), agE hA (i := (i + 1 + 1)) (by omega), agE hA (i := (i + 1 + 1) + 1) (by omega)]
theorem qLeaf_ag (i : Nat) (hi : i ≤ ts.length) : plQ (qLeaf ts i) ≤ m → qLeaf ts' i = qLeaf ts i := by
  unfold qLeaf
  rcases h38 : of? ts i 1 with _ | _
  · simp only [Bool.false_eq_true, if_false]
    rcases h39 : of? ts i 3 with _ | _
    · simp only [Bool.false_eq_true, if_false]
      rcases h40 : of? ts i 4 with _ | _
      · simp only [Bool.false_eq_true, if_false]
        rcases h41 : at? ts i 2 [116, 114, 117, 101] with _ | _
        · simp only [Bool.false_eq_true, if_false]
          rcases h42 : at? ts i 2 [102, 97, 108, 115, 101] with _ | _
          · simp only [Bool.false_eq_true, if_false]
            intro hz
            have hz : i ≤ m := hz
            have gh38 := (agO hA (by omega)).trans h38
            have gh39 := (agO hA (by omega)).trans h39
            have gh40 := (agO hA (by omega)).trans h40
            have gh41 := (agA hA (by omega)).trans h41
            have gh42 := (agA hA (by omega)).trans h42
            simp only [gh38, gh39, gh40, gh41, gh42, if_true, if_false, Bool.false_eq_true, agF hA (i := i) (by omega), agS hA (i := i) (by omega), agN hA (i := i) (by omega), eLeaf, agE hA (i := i) (by omega), agE hA (i := i + 1) (by omega)]
          · simp only [if_true]
            have := atl h42
            intro hz
            have hz : (i + 1) ≤ m := hz
            have gh38 := (agO hA (by omega)).trans h38
            have gh39 := (agO hA (by omega)).trans h39
            have gh40 := (agO hA (by omega)).trans h40
            have gh41 := (agA hA (by omega)).trans h41
            have gh42 := (agA hA (by omega)).trans h42
            simp only [gh38, gh39, gh40, gh41, gh42, if_true, if_false, Bool.false_eq_true, agF hA (i := i) (by omega), agS hA (i := i) (by omega), agN hA (i := i) (by omega), eLeaf, agE hA (i := (i + 1)) (by omega), agE hA (i := (i + 1) + 1) (by omega)]
        · simp only [if_true]
          have := atl h41
          intro hz
          have hz : (i + 1) ≤ m := hz
          have gh38 := (agO hA (by omega)).trans h38
          have gh39 := (agO hA (by omega)).trans h39
          have gh40 := (agO hA (by omega)).trans h40
          have gh41 := (agA hA (by omega)).trans h41
          simp only [gh38, gh39, gh40, gh41, if_true, if_false, Bool.false_eq_true, agF hA (i := i) (by omega), agS hA (i := i) (by omega), agN hA (i := i) (by omega), eLeaf, agE hA (i := (i + 1)) (by omega), agE hA (i := (i + 1) + 1) (by omega)]
      · simp only [if_true]
        have := ofl h40
        intro hz
        have hz : (i + 1) ≤ m := hz
        have gh38 := (agO hA (by omega)).trans h38
        have gh39 := (agO hA (by omega)).trans h39
        have gh40 := (agO hA (by omega)).trans h40
        simp only [gh38, gh39, gh40, if_true, if_false, Bool.false_eq_true, agF hA (i := i) (by omega), agS hA (i := i) (by omega), agN hA (i := i) (by omega), eLeaf, agE hA (i := (i + 1)) (by omega), agE hA (i := (i + 1) + 1) (by omega)]
    · simp only [if_true]
      have := ofl h39
      intro hz
      have hz : (i + 1) ≤ m := hz
      have gh38 := (agO hA (by omega)).trans h38
      have gh39 := (agO hA (by omega)).trans h39
      simp only [gh38, gh39, if_true, if_false, Bool.false_eq_true, agF hA (i := i) (by omega), agS hA (i := i) (by omega), agN hA (i := i) (by omega), eLeaf, agE hA (i := (i + 1)) (by omega), agE hA (i := (i + 1) + 1) (by omega)]
  · simp only [if_true]
    have := ofl h38
    intro hz
    have hz : (i + 1) ≤ m := hz
    have gh38 := (agO hA (by omega)).trans h38
    simp only [gh38, if_true, if_false, Bool.false_eq_true, agF hA (i := i) (by omega), agS hA (i := i) (by omega), agN hA (i := i) (by omega), eLeaf, agE hA (i := (i + 1)) (by omega), agE hA (i := (i + 1) + 1) (by omega)]
omit hA hx he in
theorem qLeaf_err' {i e q : Nat} (h : qLeaf ts i = .error (e, q)) : e = i := by
  unfold qLeaf at h
  repeat' split at h
  all_goals cases h
  rfl
theorem qAtom_ag (i : Nat) (hb : b0 ≤ i) (hi : i ≤ ts.length) : plQ (qAtom ts ex i) ≤ m → qAtom ts' ex' i = qAtom ts ex i := by
  have hl0 := qLeaf_ok ts i hi
  have hq0 := qAtom_ok ts he i hi
  unfold qAtom
  rcases hl : qLeaf ts i with ⟨e, q⟩ | ⟨x, j⟩
  · obtain ⟨_, _, _⟩ := okE hl0 hl
    have hei : e = i := qLeaf_err' hl
    subst hei
    simp only
    rcases h43 : at? ts e 5 [91] with _ | _
    · simp only [Bool.false_eq_true, if_false]
      rcases h44 : at? ts e 5 [40] with _ | _
      · simp only [Bool.false_eq_true, if_false]
        intro hz
        have hz : e ≤ m := hz
        have gl := (qLeaf_ag hA hx he e (by omega) (by rw [hl]; show e ≤ m; omega)).trans hl
        have gh43 := (agA hA (by omega)).trans h43
        have gh44 := (agA hA (by omega)).trans h44
        simp only [gl, gh43, gh44, if_true, if_false, Bool.false_eq_true, agF hA (i := e) (by omega), agS hA (i := e) (by omega), agN hA (i := e) (by omega), agE hA (i := e) (by omega), agE hA (i := e + 1) (by omega)]
      · simp only [if_true]
        have := atl h44
        intro hz
        have hpl := Nat.le_trans (plGe (qRnd_ok ts he e (by omega))) hz
        have gl := (qLeaf_ag hA hx he e (by omega) (by rw [hl]; show e ≤ m; omega)).trans hl
        have gh43 := (agA hA (by omega)).trans h43
        have gh44 := (agA hA (by omega)).trans h44
        simp only [gl, gh43, gh44, if_true, if_false, Bool.false_eq_true, agF hA (i := e) (by omega), agS hA (i := e) (by omega), agN hA (i := e) (by omega)]
        exact qRnd_ag hA hx he e hb (by omega) hi hz
    · simp only [if_true]
      have := atl h43
      rcases h45 : at? ts (e + 1) 5 [93] with _ | _
      · simp only [Bool.false_eq_true, if_false]
        intro hz
        have hz : (e + 1) ≤ m := hz
        have gl := (qLeaf_ag hA hx he e (by omega) (by rw [hl]; show e ≤ m; omega)).trans hl
        have gh43 := (agA hA (by omega)).trans h43
        have gh45 := (agA hA (by omega)).trans h45
        simp only [gl, gh43, gh45, if_true, if_false, Bool.false_eq_true, agF hA (i := e) (by omega), agS hA (i := e) (by omega), agN hA (i := e) (by omega), agE hA (i := (e + 1)) (by omega), agE hA (i := (e + 1) + 1) (by omega)]
      · simp only [if_true]
        have := atl h45
        intro hz
        have hz : (e + 1 + 1) ≤ m := hz
        have gl := (qLeaf_ag hA hx he e (by omega) (by rw [hl]; show e ≤ m; omega)).trans hl
        have gh43 := (agA hA (by omega)).trans h43
        have gh45 := (agA hA (by omega)).trans h45
        simp only [gl, gh43, gh45, if_true, if_false, Bool.false_eq_true, agF hA (i := e) (by omega), agS hA (i := e) (by omega), agN hA (i := e) (by omega), agE hA (i := (e + 1 + 1)) (by omega), agE hA (i := (e + 1 + 1) + 1) (by omega)]
  · intro hp
    have hp : j ≤ m := hp
    have gl := (qLeaf_ag hA hx he i hi (by rw [hl]; exact hp)).trans hl
    simp only [gl]
theorem qAppL_ag : ∀ (f f' : Nat) (a : Ex) (i : Nat), b0 ≤ i → i ≤ ts.length → ts.length - i < f → ts'.length - i < f' → plQ (qAppL ts ex f a i) ≤ m → qAppL ts' ex' f' a i = qAppL ts ex f a i
  | 0, _, _, _, _, _, h, _ => absurd h (Nat.not_lt_zero _)
  | _, 0, _, _, _, _, _, h => absurd h (Nat.not_lt_zero _)
  | f + 1, f' + 1, a, i, hb, hi, hf, hf' => by
    unfold qAppL
    rcases h46 : eBegins ts i with _ | _
    · simp only [Bool.false_eq_true, if_false]
      intro hz
      have hz : i ≤ m := hz
      have gh46 := (agB hA (by omega)).trans h46
      simp only [gh46, if_true, if_false, Bool.false_eq_true, agF hA (i := i) (by omega), agS hA (i := i) (by omega), agN hA (i := i) (by omega), agE hA (i := i) (by omega), agE hA (i := i + 1) (by omega)]
    · simp only [if_true]
      skip
      have k47 := qAtom_ok ts he i (by omega)
      rcases h47 : qAtom ts ex i with ⟨e, q⟩ | ⟨c, j⟩
      · obtain ⟨_, _, _⟩ := okE k47 h47
        intro hz
        have hz : e ≤ m := hz
        have gh46 := (agB hA (by omega)).trans h46
        have gh47 := (qAtom_ag hA hx he i (by omega) (by omega) (by rw [h47]; show e ≤ m; omega)).trans h47
        simp only [gh46, gh47, if_true, if_false, Bool.false_eq_true, agF hA (i := i) (by omega), agS hA (i := i) (by omega), agN hA (i := i) (by omega), agE hA (i := e) (by omega), agE hA (i := e + 1) (by omega)]
      · obtain ⟨_, _⟩ := okO k47 h47
        try simp only
        intro hz
        have hpl := Nat.le_trans (plGe0 (qAppL_ok ts he f _ j (by omega))) hz
        have gh46 := (agB hA (by omega)).trans h46
        have gh47 := (qAtom_ag hA hx he i (by omega) (by omega) (by rw [h47]; show j ≤ m; omega)).trans h47
        simp only [gh46, gh47, if_true, if_false, Bool.false_eq_true, agF hA (i := i) (by omega), agS hA (i := i) (by omega), agN hA (i := i) (by omega)]
        exact qAppL_ag f f' _ j (by omega) (by omega) (by omega) (by have := @agLt ts ts' m hA i (by omega) (by omega); omega) hz
theorem qApp_ag (i : Nat) (hb : b0 ≤ i) (hi : i ≤ ts.length) : plQ (qApp ts ex i) ≤ m → qApp ts' ex' i = qApp ts ex i := by
  unfold qApp
  have k48 := qAtom_ok ts he i (by omega)
  rcases h48 : qAtom ts ex i with ⟨e, q⟩ | ⟨a, j⟩
  · obtain ⟨_, _, _⟩ := okE k48 h48
    intro hz
    have hz : e ≤ m := hz
    have gh48 := (qAtom_ag hA hx he i (by omega) (by omega) (by rw [h48]; show e ≤ m; omega)).trans h48
    simp only [gh48, if_true, if_false, Bool.false_eq_true, agF hA (i := i) (by omega), agS hA (i := i) (by omega), agN hA (i := i) (by omega), agE hA (i := e) (by omega), agE hA (i := e + 1) (by omega)]
  · obtain ⟨_, _⟩ := okO k48 h48
    try simp only
    intro hz
    have hpl := Nat.le_trans (plGe0 (qAppL_ok ts he (ts.length + 1) _ j (by omega))) hz
    have gh48 := (qAtom_ag hA hx he i (by omega) (by omega) (by rw [h48]; show j ≤ m; omega)).trans h48
    simp only [gh48, if_true, if_false, Bool.false_eq_true, agF hA (i := i) (by omega), agS hA (i := i) (by omega), agN hA (i := i) (by omega)]
    exact qAppL_ag hA hx he (ts.length + 1) (ts'.length + 1) _ j (by omega) (by omega) (by omega) (by omega) hz
theorem qProdL_ag : ∀ (f f' : Nat) (a : Ex) (i : Nat), b0 ≤ i → i ≤ ts.length → ts.length - i < f → ts'.length - i < f' → plQ (qProdL ts ex f a i) ≤ m → qProdL ts' ex' f' a i = qProdL ts ex f a i
  | 0, _, _, _, _, _, h, _ => absurd h (Nat.not_lt_zero _)
  | _, 0, _, _, _, _, _, h => absurd h (Nat.not_lt_zero _)
  | f + 1, f' + 1, a, i, hb, hi, hf, hf' => by
    unfold qProdL
    rcases h49 : at? ts i 5 [42] with _ | _
    · simp only [Bool.false_eq_true, if_false]
      rcases h50 : at? ts i 5 [47] with _ | _
      · simp only [Bool.false_eq_true, if_false]
        intro hz
        have hz : i ≤ m := hz
        have gh49 := (agA hA (by omega)).trans h49
        have gh50 := (agA hA (by omega)).trans h50
        simp only [gh49, gh50, if_true, if_false, Bool.false_eq_true, agF hA (i := i) (by omega), agS hA (i := i) (by omega), agN hA (i := i) (by omega), agE hA (i := i) (by omega), agE hA (i := i + 1) (by omega)]
      · simp only [if_true]
        have := atl h50
        have k51 := qApp_ok ts he (i + 1) (by omega)
        rcases h51 : qApp ts ex (i + 1) with ⟨e, q⟩ | ⟨c, j⟩
        · obtain ⟨_, _, _⟩ := okE k51 h51
          intro hz
          have hz : e ≤ m := hz
          have gh49 := (agA hA (by omega)).trans h49
          have gh50 := (agA hA (by omega)).trans h50
          have gh51 := (qApp_ag hA hx he (i + 1) (by omega) (by omega) (by rw [h51]; show e ≤ m; omega)).trans h51
          simp only [gh49, gh50, gh51, if_true, if_false, Bool.false_eq_true, agF hA (i := i) (by omega), agS hA (i := i) (by omega), agN hA (i := i) (by omega), agE hA (i := e) (by omega), agE hA (i := e + 1) (by omega)]
        · obtain ⟨_, _⟩ := okO k51 h51
          try simp only
          intro hz
          have hpl := Nat.le_trans (plGe0 (qProdL_ok ts he f _ j (by omega))) hz
          have gh49 := (agA hA (by omega)).trans h49
          have gh50 := (agA hA (by omega)).trans h50
          have gh51 := (qApp_ag hA hx he (i + 1) (by omega) (by omega) (by rw [h51]; show j ≤ m; omega)).trans h51
          simp only [gh49, gh50, gh51, if_true, if_false, Bool.false_eq_true, agF hA (i := i) (by omega), agS hA (i := i) (by omega), agN hA (i := i) (by omega)]
          exact qProdL_ag f f' _ j (by omega) (by omega) (by omega) (by have := @agLt ts ts' m hA i (by omega) (by omega); omega) hz
    · simp only [if_true]
      have := atl h49
      have k52 := qApp_ok ts he (i + 1) (by omega)
      rcases h52 : qApp ts ex (i + 1) with ⟨e, q⟩ | ⟨c, j⟩
      · obtain ⟨_, _, _⟩ := okE k52 h52
        intro hz
        have hz : e ≤ m := hz
        have gh49 := (agA hA (by omega)).trans h49
        have gh52 := (qApp_ag hA hx he (i + 1) (by omega) (by omega) (by rw [h52]; show e ≤ m; omega)).trans h52
        simp only [gh49, gh52, if_true, if_false, Bool.false_eq_true, agF hA (i := i) (by omega), agS hA (i := i) (by omega), agN hA (i := i) (by omega), agE hA (i := e) (by omega), agE hA (i := e + 1) (by omega)]
      · obtain ⟨_, _⟩ := okO k52 h52
        try simp only
        intro hz
        have hpl := Nat.le_trans (plGe0 (qProdL_ok ts he f _ j (by omega))) hz
        have gh49 := (agA hA (by omega)).trans h49
        have gh52 := (qApp_ag hA hx he (i + 1) (by omega) (by omega) (by rw [h52]; show j ≤ m; omega)).trans h52
        simp only [gh49, gh52, if_true, if_false, Bool.false_eq_true, agF hA (i := i) (by omega), agS hA (i := i) (by omega), agN hA (i := i) (by omega)]
        exact qProdL_ag f f' _ j (by omega) (by omega) (by omega) (by have := @agLt ts ts' m hA i (by omega) (by omega); omega) hz
theorem qProd_ag (i : Nat) (hb : b0 ≤ i) (hi : i ≤ ts.length) : plQ (qProd ts ex i) ≤ m → qProd ts' ex' i = qProd ts ex i := by
  unfold qProd
  have k53 := qApp_ok ts he i (by omega)
  rcases h53 : qApp ts ex i with ⟨e, q⟩ | ⟨a, j⟩
  · obtain ⟨_, _, _⟩ := okE k53 h53
    intro hz
    have hz : e ≤ m := hz
    have gh53 := (qApp_ag hA hx he i (by omega) (by omega) (by rw [h53]; show e ≤ m; omega)).trans h53
    simp only [gh53, if_true, if_false, Bool.false_eq_true, agF hA (i := i) (by omega), agS hA (i := i) (by omega), agN hA (i := i) (by omega), agE hA (i := e) (by omega), agE hA (i := e + 1) (by omega)]
  · obtain ⟨_, _⟩ := okO k53 h53
    try simp only
    intro hz
    have hpl := Nat.le_trans (plGe0 (qProdL_ok ts he (ts.length + 1) _ j (by omega))) hz
    have gh53 := (qApp_ag hA hx he i (by omega) (by omega) (by rw [h53]; show j ≤ m; omega)).trans h53
    simp only [gh53, if_true, if_false, Bool.false_eq_true, agF hA (i := i) (by omega), agS hA (i := i) (by omega), agN hA (i := i) (by omega)]
    exact qProdL_ag hA hx he (ts.length + 1) (ts'.length + 1) _ j (by omega) (by omega) (by omega) (by omega) hz
theorem qSumL_ag : ∀ (f f' : Nat) (a : Ex) (i : Nat), b0 ≤ i → i ≤ ts.length → ts.length - i < f → ts'.length - i < f' → plQ (qSumL ts ex f a i) ≤ m → qSumL ts' ex' f' a i = qSumL ts ex f a i
  | 0, _, _, _, _, _, h, _ => absurd h (Nat.not_lt_zero _)
  | _, 0, _, _, _, _, _, h => absurd h (Nat.not_lt_zero _)
  | f + 1, f' + 1, a, i, hb, hi, hf, hf' => by
    unfold qSumL
    rcases h54 : at? ts i 5 [43] with _ | _
    · simp only [Bool.false_eq_true, if_false]
      rcases h55 : at? ts i 5 [45] with _ | _
      · simp only [Bool.false_eq_true, if_false]
        intro hz
        have hz : i ≤ m := hz
        have gh54 := (agA hA (by omega)).trans h54
        have gh55 := (agA hA (by omega)).trans h55
        simp only [gh54, gh55, if_true, if_false, Bool.false_eq_true, agF hA (i := i) (by omega), agS hA (i := i) (by omega), agN hA (i := i) (by omega), agE hA (i := i) (by omega), agE hA (i := i + 1) (by omega)]
      · simp only [if_true]
        have := atl h55
        have k56 := qProd_ok ts he (i + 1) (by omega)
        rcases h56 : qProd ts ex (i + 1) with ⟨e, q⟩ | ⟨c, j⟩
        · obtain ⟨_, _, _⟩ := okE k56 h56
          intro hz
          have hz : e ≤ m := hz
          have gh54 := (agA hA (by omega)).trans h54
          have gh55 := (agA hA (by omega)).trans h55
          have gh56 := (qProd_ag hA hx he (i + 1) (by omega) (by omega) (by rw [h56]; show e ≤ m; omega)).trans h56
          simp only [gh54, gh55, gh56, if_true, if_false, Bool.false_eq_true, agF hA (i := i) (by omega), agS hA (i := i) (by omega), agN hA (i := i) (by omega), agE hA (i := e) (by omega), agE hA (i := e + 1) (by omega)]
        · obtain ⟨_, _⟩ := okO k56 h56
          try simp only
          intro hz
          have hpl := Nat.le_trans (plGe0 (qSumL_ok ts he f _ j (by omega))) hz
          have gh54 := (agA hA (by omega)).trans h54
          have gh55 := (agA hA (by omega)).trans h55
          have gh56 := (qProd_ag hA hx he (i + 1) (by omega) (by omega) (by rw [h56]; show j ≤ m; omega)).trans h56
          simp only [gh54, gh55, gh56, if_true, if_false, Bool.false_eq_true, agF hA (i := i) (by omega), agS hA (i := i) (by omega), agN hA (i := i) (by omega)]
          exact qSumL_ag f f' _ j (by omega) (by omega) (by omega) (by have := @agLt ts ts' m hA i (by omega) (by omega); omega) hz
    · simp only [if_true]
      have := atl h54
      have k57 := qProd_ok ts he (i + 1) (by omega)
      rcases h57 : qProd ts ex (i + 1) with ⟨e, q⟩ | ⟨c, j⟩
      · obtain ⟨_, _, _⟩ := okE k57 h57
        intro hz
        have hz : e ≤ m := hz
        have gh54 := (agA hA (by omega)).trans h54
        have gh57 := (qProd_ag hA hx he (i + 1) (by omega) (by omega) (by rw [h57]; show e ≤ m; omega)).trans h57
        simp only [gh54, gh57, if_true, if_false, Bool.false_eq_true, agF hA (i := i) (by omega), agS hA (i := i) (by omega), agN hA (i := i) (by omega), agE hA (i := e) (by omega), agE hA (i := e + 1) (by omega)]
      · obtain ⟨_, _⟩ := okO k57 h57
        try simp only
        intro hz
        have hpl := Nat.le_trans (plGe0 (qSumL_ok ts he f _ j (by omega))) hz
        have gh54 := (agA hA (by omega)).trans h54
        have gh57 := (qProd_ag hA hx he (i + 1) (by omega) (by omega) (by rw [h57]; show j ≤ m; omega)).trans h57
        simp only [gh54, gh57, if_true, if_false, Bool.false_eq_true, agF hA (i := i) (by omega), agS hA (i := i) (by omega), agN hA (i := i) (by omega)]
        exact qSumL_ag f f' _ j (by omega) (by omega) (by omega) (by have := @agLt ts ts' m hA i (by omega) (by omega); omega) hz
theorem qSum_ag (i : Nat) (hb : b0 ≤ i) (hi : i ≤ ts.length) : plQ (qSum ts ex i) ≤ m → qSum ts' ex' i = qSum ts ex i := by
  unfold qSum
  have k58 := qProd_ok ts he i (by omega)
  rcases h58 : qProd ts ex i with ⟨e, q⟩ | ⟨a, j⟩
  · obtain ⟨_, _, _⟩ := okE k58 h58
    intro hz
    have hz : e ≤ m := hz
    have gh58 := (qProd_ag hA hx he i (by omega) (by omega) (by rw [h58]; show e ≤ m; omega)).trans h58
    simp only [gh58, if_true, if_false, Bool.false_eq_true, agF hA (i := i) (by omega), agS hA (i := i) (by omega), agN hA (i := i) (by omega), agE hA (i := e) (by omega), agE hA (i := e + 1) (by omega)]
  · obtain ⟨_, _⟩ := okO k58 h58
    try simp only
    intro hz
    have hpl := Nat.le_trans (plGe0 (qSumL_ok ts he (ts.length + 1) _ j (by omega))) hz
    have gh58 := (qProd_ag hA hx he i (by omega) (by omega) (by rw [h58]; show j ≤ m; omega)).trans h58
    simp only [gh58, if_true, if_false, Bool.false_eq_true, agF hA (i := i) (by omega), agS hA (i := i) (by omega), agN hA (i := i) (by omega)]
    exact qSumL_ag hA hx he (ts.length + 1) (ts'.length + 1) _ j (by omega) (by omega) (by omega) (by omega) hz
theorem qConsF_ag : ∀ (f f' : Nat) (i : Nat), b0 ≤ i → i ≤ ts.length → ts.length - i < f → ts'.length - i < f' → plQ (qConsF ts ex f i) ≤ m → qConsF ts' ex' f' i = qConsF ts ex f i
  | 0, _, _, _, _, h, _ => absurd h (Nat.not_lt_zero _)
  | _, 0, _, _, _, _, h => absurd h (Nat.not_lt_zero _)
  | f + 1, f' + 1, i, hb, hi, hf, hf' => by
    unfold qConsF
    have k59 := qSum_ok ts he i (by omega)
    rcases h59 : qSum ts ex i with ⟨e, q⟩ | ⟨a, j⟩
    · obtain ⟨_, _, _⟩ := okE k59 h59
      intro hz
      have hz : e ≤ m := hz
      have gh59 := (qSum_ag hA hx he i (by omega) (by omega) (by rw [h59]; show e ≤ m; omega)).trans h59
      simp only [gh59, if_true, if_false, Bool.false_eq_true, agF hA (i := i) (by omega), agS hA (i := i) (by omega), agN hA (i := i) (by omega), agE hA (i := e) (by omega), agE hA (i := e + 1) (by omega)]
    · obtain ⟨_, _⟩ := okO k59 h59
      try simp only
      rcases h60 : at? ts j 5 [58, 58] with _ | _
      · simp only [Bool.false_eq_true, if_false]
        intro hz
        have hz : j ≤ m := hz
        have gh59 := (qSum_ag hA hx he i (by omega) (by omega) (by rw [h59]; show j ≤ m; omega)).trans h59
        have gh60 := (agA hA (by omega)).trans h60
        simp only [gh59, gh60, if_true, if_false, Bool.false_eq_true, agF hA (i := i) (by omega), agS hA (i := i) (by omega), agN hA (i := i) (by omega), agE hA (i := j) (by omega), agE hA (i := j + 1) (by omega)]
      · simp only [if_true]
        have := atl h60
        have k61 := qConsF_ok ts he f (j + 1) (by omega)
        rcases h61 : qConsF ts ex f (j + 1) with ⟨e, q⟩ | ⟨c, k⟩
        · obtain ⟨_, _, _⟩ := okE k61 h61
          intro hz
          have hz : e ≤ m := hz
          have gh59 := (qSum_ag hA hx he i (by omega) (by omega) (by rw [h59]; show j ≤ m; omega)).trans h59
          have gh60 := (agA hA (by omega)).trans h60
          have gh61 := (qConsF_ag f f' (j + 1) (by omega) (by omega) (by omega) (by have := @agLt ts ts' m hA i (by omega) (by omega); omega) (by rw [h61]; show e ≤ m; omega)).trans h61
          simp only [gh59, gh60, gh61, if_true, if_false, Bool.false_eq_true, agF hA (i := i) (by omega), agS hA (i := i) (by omega), agN hA (i := i) (by omega), agE hA (i := e) (by omega), agE hA (i := e + 1) (by omega)]
        · obtain ⟨_, _⟩ := okO k61 h61
          try simp only
          intro hz
          have hz : k ≤ m := hz
          have gh59 := (qSum_ag hA hx he i (by omega) (by omega) (by rw [h59]; show j ≤ m; omega)).trans h59
          have gh60 := (agA hA (by omega)).trans h60
          have gh61 := (qConsF_ag f f' (j + 1) (by omega) (by omega) (by omega) (by have := @agLt ts ts' m hA i (by omega) (by omega); omega) (by rw [h61]; show k ≤ m; omega)).trans h61
          simp only [gh59, gh60, gh61, if_true, if_false, Bool.false_eq_true, agF hA (i := i) (by omega), agS hA (i := i) (by omega), agN hA (i := i) (by omega), agE hA (i := k) (by omega), agE hA (i := k + 1) (by omega)]
theorem qCmp_ag (i : Nat) (hb : b0 ≤ i) (hi : i ≤ ts.length) : plQ (qCmp ts ex i) ≤ m → qCmp ts' ex' i = qCmp ts ex i := by
  unfold qCmp qCons
  have k62 := qConsF_ok ts he (ts.length + 1) i (by omega)
  rcases h62 : qConsF ts ex (ts.length + 1) i with ⟨e, q⟩ | ⟨a, j⟩
  · obtain ⟨_, _, _⟩ := okE k62 h62
    intro hz
    have hz : e ≤ m := hz
    have gh62 := (qConsF_ag hA hx he (ts.length + 1) (ts'.length + 1) i (by omega) (by omega) (by omega) (by omega) (by rw [h62]; show e ≤ m; omega)).trans h62
    simp only [gh62, if_true, if_false, Bool.false_eq_true, agF hA (i := i) (by omega), agS hA (i := i) (by omega), agN hA (i := i) (by omega), agE hA (i := e) (by omega), agE hA (i := e + 1) (by omega)]
  · obtain ⟨_, _⟩ := okO k62 h62
    try simp only
    rcases h63 : at? ts j 5 [60] with _ | _
    · simp only [Bool.false_eq_true, if_false]
      rcases h64 : at? ts j 5 [61] with _ | _
      · simp only [Bool.false_eq_true, if_false]
        rcases h65 : at? ts j 5 [61, 61] with _ | _
        · simp only [Bool.false_eq_true, if_false]
          intro hz
          have hz : j ≤ m := hz
          have gh62 := (qConsF_ag hA hx he (ts.length + 1) (ts'.length + 1) i (by omega) (by omega) (by omega) (by omega) (by rw [h62]; show j ≤ m; omega)).trans h62
          have gh63 := (agA hA (by omega)).trans h63
          have gh64 := (agA hA (by omega)).trans h64
          have gh65 := (agA hA (by omega)).trans h65
          simp only [gh62, gh63, gh64, gh65, if_true, if_false, Bool.false_eq_true, agF hA (i := i) (by omega), agS hA (i := i) (by omega), agN hA (i := i) (by omega), agE hA (i := j) (by omega), agE hA (i := j + 1) (by omega)]
        · simp only [if_true]
          have := atl h65
          have k66 := qConsF_ok ts he (ts.length + 1) (j + 1) (by omega)
          rcases h66 : qConsF ts ex (ts.length + 1) (j + 1) with ⟨e, q⟩ | ⟨c, k⟩
          · obtain ⟨_, _, _⟩ := okE k66 h66
            intro hz
            have hz : e ≤ m := hz
            have gh62 := (qConsF_ag hA hx he (ts.length + 1) (ts'.length + 1) i (by omega) (by omega) (by omega) (by omega) (by rw [h62]; show j ≤ m; omega)).trans h62
            have gh63 := (agA hA (by omega)).trans h63
            have gh64 := (agA hA (by omega)).trans h64
            have gh65 := (agA hA (by omega)).trans h65
            have gh66 := (qConsF_ag hA hx he (ts.length + 1) (ts'.length + 1) (j + 1) (by omega) (by omega) (by omega) (by omega) (by rw [h66]; show e ≤ m; omega)).trans h66
            simp only [gh62, gh63, gh64, gh65, gh66, if_true, if_false, Bool.false_eq_true, agF hA (i := i) (by omega), agS hA (i := i) (by omega), agN hA (i := i) (by omega), agE hA (i := e) (by omega), agE hA (i := e + 1) (by omega)]
          · obtain ⟨_, _⟩ := okO k66 h66
            try simp only
            intro hz
            have hz : k ≤ m := hz
            have gh62 := (qConsF_ag hA hx he (ts.length + 1) (ts'.length + 1) i (by omega) (by omega) (by omega) (by omega) (by rw [h62]; show j ≤ m; omega)).trans h62
            have gh63 := (agA hA (by omega)).trans h63
            have gh64 := (agA hA (by omega)).trans h64
            have gh65 := (agA hA (by omega)).trans h65
            have gh66 := (qConsF_ag hA hx he (ts.length + 1) (ts'.length + 1) (j + 1) (by omega) (by omega) (by omega) (by omega) (by rw [h66]; show k ≤ m; omega)).trans h66
            simp only [gh62, gh63, gh64, gh65, gh66, if_true, if_false, Bool.false_eq_true, agF hA (i := i) (by omega), agS hA (i := i) (by omega), agN hA (i := i) (by omega), agE hA (i := k) (by omega), agE hA (i := k + 1) (by omega)]
      · simp only [if_true]
        have := atl h64
        have k67 := qConsF_ok ts he (ts.length + 1) (j + 1) (by omega)
        rcases h67 : qConsF ts ex (ts.length + 1) (j + 1) with ⟨e, q⟩ | ⟨c, k⟩
        · obtain ⟨_, _, _⟩ := okE k67 h67
          intro hz
          have hz : e ≤ m := hz
          have gh62 := (qConsF_ag hA hx he (ts.length + 1) (ts'.length + 1) i (by omega) (by omega) (by omega) (by omega) (by rw [h62]; show j ≤ m; omega)).trans h62
          have gh63 := (agA hA (by omega)).trans h63
          have gh64 := (agA hA (by omega)).trans h64
          have gh67 := (qConsF_ag hA hx he (ts.length + 1) (ts'.length + 1) (j + 1) (by omega) (by omega) (by omega) (by omega) (by rw [h67]; show e ≤ m; omega)).trans h67
          simp only [gh62, gh63, gh64, gh67, if_true, if_false, Bool.false_eq_true, agF hA (i := i) (by omega), agS hA (i := i) (by omega), agN hA (i := i) (by omega), agE hA (i := e) (by omega), agE hA (i := e + 1) (by omega)]
        · obtain ⟨_, _⟩ := okO k67 h67
          try simp only
          intro hz
          have hz : k ≤ m := hz
          have gh62 := (qConsF_ag hA hx he (ts.length + 1) (ts'.length + 1) i (by omega) (by omega) (by omega) (by omega) (by rw [h62]; show j ≤ m; omega)).trans h62
          have gh63 := (agA hA (by omega)).trans h63
          have gh64 := (agA hA (by omega)).trans h64
          have gh67 := (qConsF_ag hA hx he (ts.length + 1) (ts'.length + 1) (j + 1) (by omega) (by omega) (by omega) (by omega) (by rw [h67]; show k ≤ m; omega)).trans h67
          simp only [gh62, gh63, gh64, gh67, if_true, if_false, Bool.false_eq_true, agF hA (i := i) (by omega), agS hA (i := i) (by omega), agN hA (i := i) (by omega), agE hA (i := k) (by omega), agE hA (i := k + 1) (by omega)]
    · simp only [if_true]
      have := atl h63
      have k68 := qConsF_ok ts he (ts.length + 1) (j + 1) (by omega)
      rcases h68 : qConsF ts ex (ts.length + 1) (j + 1) with ⟨e, q⟩ | ⟨c, k⟩
      · obtain ⟨_, _, _⟩ := okE k68 h68
        intro hz
        have hz : e ≤ m := hz
        have gh62 := (qConsF_ag hA hx he (ts.length + 1) (ts'.length + 1) i (by omega) (by omega) (by omega) (by omega) (by rw [h62]; show j ≤ m; omega)).trans h62
        have gh63 := (agA hA (by omega)).trans h63
        have gh68 := (qConsF_ag hA hx he (ts.length + 1) (ts'.length + 1) (j + 1) (by omega) (by omega) (by omega) (by omega) (by rw [h68]; show e ≤ m; omega)).trans h68
        simp only [gh62, gh63, gh68, if_true, if_false, Bool.false_eq_true, agF hA (i := i) (by omega), agS hA (i := i) (by omega), agN hA (i := i) (by omega), agE hA (i := e) (by omega), agE hA (i := e + 1) (by omega)]
      · obtain ⟨_, _⟩ := okO k68 h68
        try simp only
        intro hz
        have hz : k ≤ m := hz
        have gh62 := (qConsF_ag hA hx he (ts.length + 1) (ts'.length + 1) i (by omega) (by omega) (by omega) (by omega) (by rw [h62]; show j ≤ m; omega)).trans h62
        have gh63 := (agA hA (by omega)).trans h63
        have gh68 := (qConsF_ag hA hx he (ts.length + 1) (ts'.length + 1) (j + 1) (by omega) (by omega) (by omega) (by omega) (by rw [h68]; show k ≤ m; omega)).trans h68
        simp only [gh62, gh63, gh68, if_true, if_false, Bool.false_eq_true, agF hA (i := i) (by omega), agS hA (i := i) (by omega), agN hA (i := i) (by omega), agE hA (i := k) (by omega), agE hA (i := k + 1) (by omega)]
theorem qBody_ag (i : Nat) (hb : b0 ≤ i) (hi : i ≤ ts.length) : plQ (qBody ts ex i) ≤ m → qBody ts' ex' i = qBody ts ex i := by
  unfold qBody
  rcases h69 : at? ts i 5 [61] with _ | _
  · simp only [Bool.false_eq_true, if_false]
    intro hz
    have hz : i ≤ m := hz
    have gh69 := (agA hA (by omega)).trans h69
    simp only [gh69, if_true, if_false, Bool.false_eq_true, agF hA (i := i) (by omega), agS hA (i := i) (by omega), agN hA (i := i) (by omega), agE hA (i := i) (by omega), agE hA (i := i + 1) (by omega)]
  · simp only [if_true]
    have := atl h69
    have k70 := he (i + 1) (by omega)
    rcases h70 : ex (i + 1) with ⟨e, q⟩ | ⟨a, j⟩
    · obtain ⟨_, _, _⟩ := okE k70 h70
      intro hz
      have hz : e ≤ m := hz
      have gh69 := (agA hA (by omega)).trans h69
      have gh70 := (hx (i + 1) (by omega) (by omega) (by rw [h70]; show e ≤ m; omega)).trans h70
      simp only [gh69, gh70, if_true, if_false, Bool.false_eq_true, agF hA (i := i) (by omega), agS hA (i := i) (by omega), agN hA (i := i) (by omega), agE hA (i := e) (by omega), agE hA (i := e + 1) (by omega)]
    · obtain ⟨_, _⟩ := okO k70 h70
      try simp only
      rcases h71 : at? ts j 2 [105, 110] with _ | _
      · simp only [Bool.false_eq_true, if_false]
        intro hz
        have hz : j ≤ m := hz
        have gh69 := (agA hA (by omega)).trans h69
        have gh70 := (hx (i + 1) (by omega) (by omega) (by rw [h70]; show j ≤ m; omega)).trans h70
        have gh71 := (agA hA (by omega)).trans h71
        simp only [gh69, gh70, gh71, if_true, if_false, Bool.false_eq_true, agF hA (i := i) (by omega), agS hA (i := i) (by omega), agN hA (i := i) (by omega), agE hA (i := j) (by omega), agE hA (i := j + 1) (by omega)]
      · simp only [if_true]
        have := atl h71
        have k72 := he (j + 1) (by omega)
        rcases h72 : ex (j + 1) with ⟨e, q⟩ | ⟨c, k⟩
        · obtain ⟨_, _, _⟩ := okE k72 h72
          intro hz
          have hz : e ≤ m := hz
          have gh69 := (agA hA (by omega)).trans h69
          have gh70 := (hx (i + 1) (by omega) (by omega) (by rw [h70]; show j ≤ m; omega)).trans h70
          have gh71 := (agA hA (by omega)).trans h71
          have gh72 := (hx (j + 1) (by omega) (by omega) (by rw [h72]; show e ≤ m; omega)).trans h72
          simp only [gh69, gh70, gh71, gh72, if_true, if_false, Bool.false_eq_true, agF hA (i := i) (by omega), agS hA (i := i) (by omega), agN hA (i := i) (by omega), agE hA (i := e) (by omega), agE hA (i := e + 1) (by omega)]
        · obtain ⟨_, _⟩ := okO k72 h72
          try simp only
          intro hz
          have hz : k ≤ m := hz
          have gh69 := (agA hA (by omega)).trans h69
          have gh70 := (hx (i + 1) (by omega) (by omega) (by rw [h70]; show j ≤ m; omega)).trans h70
          have gh71 := (agA hA (by omega)).trans h71
          have gh72 := (hx (j + 1) (by omega) (by omega) (by rw [h72]; show k ≤ m; omega)).trans h72
          simp only [gh69, gh70, gh71, gh72, if_true, if_false, Bool.false_eq_true, agF hA (i := i) (by omega), agS hA (i := i) (by omega), agN hA (i := i) (by omega), agE hA (i := k) (by omega), agE hA (i := k + 1) (by omega)]
theorem qLet_ag (fr : Int) (i : Nat) (hb : b0 ≤ i) (hi : i ≤ ts.length) : plQ (qLet ts ex fr i) ≤ m → qLet ts' ex' fr i = qLet ts ex fr i := by
  unfold qLet
  have k73 := qName_ok ts i (by omega)
  rcases h73 : qName ts i with ⟨e, q⟩ | ⟨s, j⟩
  · obtain ⟨_, _, _⟩ := okE k73 h73
    intro hz
    have hz : e ≤ m := hz
    have gh73 := (qName_ag hA i (by omega) (by rw [h73]; show e ≤ m; omega)).trans h73
    simp only [gh73, if_true, if_false, Bool.false_eq_true, agF hA (i := i) (by omega), agS hA (i := i) (by omega), agN hA (i := i) (by omega), agE hA (i := e) (by omega), agE hA (i := e + 1) (by omega)]
  · obtain ⟨_, _⟩ := okO k73 h73
    try simp only
    have k74 := qMaybe_ok ts j (by omega)
    rcases h74 : qMaybe ts j with ⟨e, q⟩ | ⟨t, k⟩
    · obtain ⟨_, _, _⟩ := okE0 k74 h74
      intro hz
      have hz : e ≤ m := hz
      have gh73 := (qName_ag hA i (by omega) (by rw [h73]; show j ≤ m; omega)).trans h73
      have gh74 := (qMaybe_ag hA j (by omega) (by rw [h74]; show e ≤ m; omega)).trans h74
      simp only [gh73, gh74, if_true, if_false, Bool.false_eq_true, agF hA (i := i) (by omega), agS hA (i := i) (by omega), agN hA (i := i) (by omega), agE hA (i := e) (by omega), agE hA (i := e + 1) (by omega)]
    · obtain ⟨_, _⟩ := okO0 k74 h74
      try simp only
      have k75 := qBody_ok ts he k (by omega)
      rcases h75 : qBody ts ex k with ⟨e, q⟩ | ⟨⟨a, c⟩, l⟩
      · obtain ⟨_, _, _⟩ := okE k75 h75
        intro hz
        have hz : e ≤ m := hz
        have gh73 := (qName_ag hA i (by omega) (by rw [h73]; show j ≤ m; omega)).trans h73
        have gh74 := (qMaybe_ag hA j (by omega) (by rw [h74]; show k ≤ m; omega)).trans h74
        have gh75 := (qBody_ag hA hx he k (by omega) (by omega) (by rw [h75]; show e ≤ m; omega)).trans h75
        simp only [gh73, gh74, gh75, if_true, if_false, Bool.false_eq_true, agF hA (i := i) (by omega), agS hA (i := i) (by omega), agN hA (i := i) (by omega), agE hA (i := e) (by omega), agE hA (i := e + 1) (by omega)]
      · obtain ⟨_, _⟩ := okO k75 h75
        try simp only
        intro hz
        have hz : l ≤ m := hz
        have gh73 := (qName_ag hA i (by omega) (by rw [h73]; show j ≤ m; omega)).trans h73
        have gh74 := (qMaybe_ag hA j (by omega) (by rw [h74]; show k ≤ m; omega)).trans h74
        have gh75 := (qBody_ag hA hx he k (by omega) (by omega) (by rw [h75]; show l ≤ m; omega)).trans h75
        simp only [gh73, gh74, gh75, if_true, if_false, Bool.false_eq_true, agF hA (i := i) (by omega), agS hA (i := i) (by omega), agN hA (i := i) (by omega), agE hA (i := l) (by omega), agE hA (i := l + 1) (by omega)]
theorem qRec_ag (fr : Int) (i : Nat) (hb : b0 ≤ i) (hi : i ≤ ts.length) : plQ (qRec ts ex fr i) ≤ m → qRec ts' ex' fr i = qRec ts ex fr i := by
  unfold qRec
  have k76 := qName_ok ts i (by omega)
  rcases h76 : qName ts i with ⟨e, q⟩ | ⟨s, j⟩
  · obtain ⟨_, _, _⟩ := okE k76 h76
    intro hz
    have hz : e ≤ m := hz
    have gh76 := (qName_ag hA i (by omega) (by rw [h76]; show e ≤ m; omega)).trans h76
    simp only [gh76, if_true, if_false, Bool.false_eq_true, agF hA (i := i) (by omega), agS hA (i := i) (by omega), agN hA (i := i) (by omega), agE hA (i := e) (by omega), agE hA (i := e + 1) (by omega)]
  · obtain ⟨_, _⟩ := okO k76 h76
    try simp only
    have k77 := qParam_ok ts j (by omega)
    rcases h77 : qParam ts j with ⟨e, q⟩ | ⟨⟨g, t⟩, k⟩
    · obtain ⟨_, _, _⟩ := okE k77 h77
      intro hz
      have hz : e ≤ m := hz
      have gh76 := (qName_ag hA i (by omega) (by rw [h76]; show j ≤ m; omega)).trans h76
      have gh77 := (qParam_ag hA j (by omega) (by rw [h77]; show e ≤ m; omega)).trans h77
      simp only [gh76, gh77, if_true, if_false, Bool.false_eq_true, agF hA (i := i) (by omega), agS hA (i := i) (by omega), agN hA (i := i) (by omega), agE hA (i := e) (by omega), agE hA (i := e + 1) (by omega)]
    · obtain ⟨_, _⟩ := okO k77 h77
      try simp only
      have k78 := qMaybe_ok ts k (by omega)
      rcases h78 : qMaybe ts k with ⟨e, q⟩ | ⟨u, l⟩
      · obtain ⟨_, _, _⟩ := okE0 k78 h78
        intro hz
        have hz : e ≤ m := hz
        have gh76 := (qName_ag hA i (by omega) (by rw [h76]; show j ≤ m; omega)).trans h76
        have gh77 := (qParam_ag hA j (by omega) (by rw [h77]; show k ≤ m; omega)).trans h77
        have gh78 := (qMaybe_ag hA k (by omega) (by rw [h78]; show e ≤ m; omega)).trans h78
        simp only [gh76, gh77, gh78, if_true, if_false, Bool.false_eq_true, agF hA (i := i) (by omega), agS hA (i := i) (by omega), agN hA (i := i) (by omega), agE hA (i := e) (by omega), agE hA (i := e + 1) (by omega)]
      · obtain ⟨_, _⟩ := okO0 k78 h78
        try simp only
        have k79 := qBody_ok ts he l (by omega)
        rcases h79 : qBody ts ex l with ⟨e, q⟩ | ⟨⟨a, c⟩, n⟩
        · obtain ⟨_, _, _⟩ := okE k79 h79
          intro hz
          have hz : e ≤ m := hz
          have gh76 := (qName_ag hA i (by omega) (by rw [h76]; show j ≤ m; omega)).trans h76
          have gh77 := (qParam_ag hA j (by omega) (by rw [h77]; show k ≤ m; omega)).trans h77
          have gh78 := (qMaybe_ag hA k (by omega) (by rw [h78]; show l ≤ m; omega)).trans h78
          have gh79 := (qBody_ag hA hx he l (by omega) (by omega) (by rw [h79]; show e ≤ m; omega)).trans h79
          simp only [gh76, gh77, gh78, gh79, if_true, if_false, Bool.false_eq_true, agF hA (i := i) (by omega), agS hA (i := i) (by omega), agN hA (i := i) (by omega), agE hA (i := e) (by omega), agE hA (i := e + 1) (by omega)]
        · obtain ⟨_, _⟩ := okO k79 h79
          try simp only
          intro hz
          have hz : n ≤ m := hz
          have gh76 := (qName_ag hA i (by omega) (by rw [h76]; show j ≤ m; omega)).trans h76
          have gh77 := (qParam_ag hA j (by omega) (by rw [h77]; show k ≤ m; omega)).trans h77
          have gh78 := (qMaybe_ag hA k (by omega) (by rw [h78]; show l ≤ m; omega)).trans h78
          have gh79 := (qBody_ag hA hx he l (by omega) (by omega) (by rw [h79]; show n ≤ m; omega)).trans h79
          simp only [gh76, gh77, gh78, gh79, if_true, if_false, Bool.false_eq_true, agF hA (i := i) (by omega), agS hA (i := i) (by omega), agN hA (i := i) (by omega), agE hA (i := n) (by omega), agE hA (i := n + 1) (by omega)]
theorem qLetR_ag (fr : Int) (i : Nat) (hb : b0 ≤ i) (hi : i ≤ ts.length) : plQ (qLetR ts ex fr i) ≤ m → qLetR ts' ex' fr i = qLetR ts ex fr i := by
  unfold qLetR
  rcases h80 : at? ts i 2 [114, 101, 99] with _ | _
  · simp only [Bool.false_eq_true, if_false]
    intro hz
    have hpl := Nat.le_trans (plGe (qLet_ok ts he fr i hi)) hz
    have gh80 := (agA hA (by omega)).trans h80
    simp only [gh80, if_true, if_false, Bool.false_eq_true, agF hA (i := i) (by omega), agS hA (i := i) (by omega), agN hA (i := i) (by omega)]
    exact qLet_ag hA hx he fr i hb hi hz
  · simp only [if_true]
    have := atl h80
    intro hz
    have hpl := Nat.le_trans (plGe (qRec_ok ts he fr (i + 1) (by omega))) hz
    have gh80 := (agA hA (by omega)).trans h80
    simp only [gh80, if_true, if_false, Bool.false_eq_true, agF hA (i := i) (by omega), agS hA (i := i) (by omega), agN hA (i := i) (by omega)]
    exact qRec_ag hA hx he fr (i + 1) (by omega) (by omega) hz
theorem qFun_ag (fr : Int) (i : Nat) (hb : b0 ≤ i) (hi : i ≤ ts.length) : plQ (qFun ts ex fr i) ≤ m → qFun ts' ex' fr i = qFun ts ex fr i := by
  unfold qFun
  have k81 := qParam_ok ts i (by omega)
  rcases h81 : qParam ts i with ⟨e, q⟩ | ⟨⟨s, t⟩, j⟩
  · obtain ⟨_, _, _⟩ := okE k81 h81
    intro hz
    have hz : e ≤ m := hz
    have gh81 := (qParam_ag hA i (by omega) (by rw [h81]; show e ≤ m; omega)).trans h81
    simp only [gh81, if_true, if_false, Bool.false_eq_true, agF hA (i := i) (by omega), agS hA (i := i) (by omega), agN hA (i := i) (by omega), agE hA (i := e) (by omega), agE hA (i := e + 1) (by omega)]
  · obtain ⟨_, _⟩ := okO k81 h81
    try simp only
    rcases h82 : at? ts j 5 [45, 62] with _ | _
    · simp only [Bool.false_eq_true, if_false]
      intro hz
      have hz : j ≤ m := hz
      have gh81 := (qParam_ag hA i (by omega) (by rw [h81]; show j ≤ m; omega)).trans h81
      have gh82 := (agA hA (by omega)).trans h82
      simp only [gh81, gh82, if_true, if_false, Bool.false_eq_true, agF hA (i := i) (by omega), agS hA (i := i) (by omega), agN hA (i := i) (by omega), agE hA (i := j) (by omega), agE hA (i := j + 1) (by omega)]
    · simp only [if_true]
      have := atl h82
      have k83 := he (j + 1) (by omega)
      rcases h83 : ex (j + 1) with ⟨e, q⟩ | ⟨c, k⟩
      · obtain ⟨_, _, _⟩ := okE k83 h83
        intro hz
        have hz : e ≤ m := hz
        have gh81 := (qParam_ag hA i (by omega) (by rw [h81]; show j ≤ m; omega)).trans h81
        have gh82 := (agA hA (by omega)).trans h82
        have gh83 := (hx (j + 1) (by omega) (by omega) (by rw [h83]; show e ≤ m; omega)).trans h83
        simp only [gh81, gh82, gh83, if_true, if_false, Bool.false_eq_true, agF hA (i := i) (by omega), agS hA (i := i) (by omega), agN hA (i := i) (by omega), agE hA (i := e) (by omega), agE hA (i := e + 1) (by omega)]
      · obtain ⟨_, _⟩ := okO k83 h83
        try simp only
        intro hz
        have hz : k ≤ m := hz
        have gh81 := (qParam_ag hA i (by omega) (by rw [h81]; show j ≤ m; omega)).trans h81
        have gh82 := (agA hA (by omega)).trans h82
        have gh83 := (hx (j + 1) (by omega) (by omega) (by rw [h83]; show k ≤ m; omega)).trans h83
        simp only [gh81, gh82, gh83, if_true, if_false, Bool.false_eq_true, agF hA (i := i) (by omega), agS hA (i := i) (by omega), agN hA (i := i) (by omega), agE hA (i := k) (by omega), agE hA (i := k + 1) (by omega)]
theorem qIfS_ag (fr : Int) : ∀ (ws : List (List UInt8)) (es : List Ex) (i : Nat), b0 < i → i ≤ ts.length → plQ (qIfS ts ex fr ws es i) ≤ m → qIfS ts' ex' fr ws es i = qIfS ts ex fr ws es i
  | [], es, i, _, _ => fun _ => rfl
  | w :: ws, es, i, hb, hi => by
    unfold qIfS
    have k := he i hi
    rcases h : ex i with ⟨e, q⟩ | ⟨a, j⟩
    · intro hp
      have g := (hx i hb hi (by rw [h]; exact hp)).trans h
      simp only [g]
    · obtain ⟨_, _⟩ := okO k h
      simp only
      by_cases hw : w = []
      · rw [if_pos hw]
        intro hp
        have hpl := Nat.le_trans (plGe0 (qIfS_ok ts he fr ws (es ++ [a]) j (by omega))) hp
        have g := (hx i hb hi (by rw [h]; exact hpl)).trans h
        simp only [g, if_pos hw]
        exact qIfS_ag fr ws _ j (by omega) (by omega) hp
      · rw [if_neg hw]
        rcases h2 : at? ts j 2 w with _ | _
        · intro hp
          have hp : j ≤ m := hp
          have g := (hx i hb hi (by rw [h]; exact hp)).trans h
          simp only [g, if_neg hw, (agA hA hp).trans h2, Bool.false_eq_true, if_false]
        · have := atl h2
          simp only [if_true]
          intro hp
          have hpl := Nat.le_trans (plGe0 (qIfS_ok ts he fr ws (es ++ [a]) (j + 1) (by omega))) hp
          have g := (hx i hb hi (by rw [h]; show j ≤ m; omega)).trans h
          simp only [g, if_neg hw, (agA hA (show j ≤ m by omega)).trans h2, if_true]
          exact qIfS_ag fr ws _ (j + 1) (by omega) (by omega) hp
theorem qEnd_ag (fr : Int) (ps : List Pa) (es : List Ex) (i : Nat) (hi : i ≤ ts.length) : plQ (qEnd ts fr ps es i) ≤ m → qEnd ts' fr ps es i = qEnd ts fr ps es i := by
  unfold qEnd
  rcases h84 : at? ts i 2 [101, 110, 100] with _ | _
  · simp only [Bool.false_eq_true, if_false]
    intro hz
    have hz : i ≤ m := hz
    have gh84 := (agA hA (by omega)).trans h84
    simp only [gh84, if_true, if_false, Bool.false_eq_true, agF hA (i := i) (by omega), agS hA (i := i) (by omega), agN hA (i := i) (by omega), agE hA (i := i) (by omega), agE hA (i := i + 1) (by omega)]
  · simp only [if_true]
    have := atl h84
    intro hz
    have hz : (i + 1) ≤ m := hz
    have gh84 := (agA hA (by omega)).trans h84
    simp only [gh84, if_true, if_false, Bool.false_eq_true, agF hA (i := i) (by omega), agS hA (i := i) (by omega), agN hA (i := i) (by omega), agE hA (i := (i + 1)) (by omega), agE hA (i := (i + 1) + 1) (by omega)]
theorem qArms_ag (fr : Int) : ∀ (f f' : Nat) (ps : List Pa) (es : List Ex) (i : Nat), b0 ≤ i → i ≤ ts.length → ts.length - i < f → ts'.length - i < f' → plQ (qArms ts ex fr f ps es i) ≤ m → qArms ts' ex' fr f' ps es i = qArms ts ex fr f ps es i
  | 0, _, _, _, _, _, _, h, _ => absurd h (Nat.not_lt_zero _)
  | _, 0, _, _, _, _, _, _, h => absurd h (Nat.not_lt_zero _)
  | f + 1, f' + 1, ps, es, i, hb, hi, hf, hf' => by
    unfold qArms
    have k85 := qPatF_ok ts (ts.length + 1) [] i (by omega)
    rcases h85 : qPatF ts (ts.length + 1) [] i with ⟨e, q⟩ | ⟨⟨p, s⟩, j⟩
    · obtain ⟨_, _, _⟩ := okE k85 h85
      intro hz
      have hz : e ≤ m := hz
      have gh85 := (qPatF_ag hA (ts.length + 1) (ts'.length + 1) [] i (by omega) (by omega) (by omega) (by rw [h85]; show e ≤ m; omega)).trans h85
      simp only [gh85, if_true, if_false, Bool.false_eq_true, agF hA (i := i) (by omega), agS hA (i := i) (by omega), agN hA (i := i) (by omega), agE hA (i := e) (by omega), agE hA (i := e + 1) (by omega)]
    · obtain ⟨_, _⟩ := okO k85 h85
      try simp only
      rcases h86 : at? ts j 5 [45, 62] with _ | _
      · simp only [Bool.false_eq_true, if_false]
        intro hz
        have hz : j ≤ m := hz
        have gh85 := (qPatF_ag hA (ts.length + 1) (ts'.length + 1) [] i (by omega) (by omega) (by omega) (by rw [h85]; show j ≤ m; omega)).trans h85
        have gh86 := (agA hA (by omega)).trans h86
        simp only [gh85, gh86, if_true, if_false, Bool.false_eq_true, agF hA (i := i) (by omega), agS hA (i := i) (by omega), agN hA (i := i) (by omega), agE hA (i := j) (by omega), agE hA (i := j + 1) (by omega)]
      · simp only [if_true]
        have := atl h86
        have k87 := he (j + 1) (by omega)
        rcases h87 : ex (j + 1) with ⟨e, q⟩ | ⟨a, k⟩
        · obtain ⟨_, _, _⟩ := okE k87 h87
          intro hz
          have hz : e ≤ m := hz
          have gh85 := (qPatF_ag hA (ts.length + 1) (ts'.length + 1) [] i (by omega) (by omega) (by omega) (by rw [h85]; show j ≤ m; omega)).trans h85
          have gh86 := (agA hA (by omega)).trans h86
          have gh87 := (hx (j + 1) (by omega) (by omega) (by rw [h87]; show e ≤ m; omega)).trans h87
          simp only [gh85, gh86, gh87, if_true, if_false, Bool.false_eq_true, agF hA (i := i) (by omega), agS hA (i := i) (by omega), agN hA (i := i) (by omega), agE hA (i := e) (by omega), agE hA (i := e + 1) (by omega)]
        · obtain ⟨_, _⟩ := okO k87 h87
          try simp only
          rcases h88 : at? ts k 5 [124] with _ | _
          · simp only [Bool.false_eq_true, if_false]
            intro hz
            have hpl := Nat.le_trans (plGe (qEnd_ok ts fr _ _ k (by omega))) hz
            have gh85 := (qPatF_ag hA (ts.length + 1) (ts'.length + 1) [] i (by omega) (by omega) (by omega) (by rw [h85]; show j ≤ m; omega)).trans h85
            have gh86 := (agA hA (by omega)).trans h86
            have gh87 := (hx (j + 1) (by omega) (by omega) (by rw [h87]; show k ≤ m; omega)).trans h87
            have gh88 := (agA hA (by omega)).trans h88
            simp only [gh85, gh86, gh87, gh88, if_true, if_false, Bool.false_eq_true, agF hA (i := i) (by omega), agS hA (i := i) (by omega), agN hA (i := i) (by omega)]
            exact qEnd_ag hA hx he fr _ _ k (by omega) hz
          · simp only [if_true]
            have := atl h88
            intro hz
            have hpl := Nat.le_trans (plGe (qArms_ok ts he fr f _ _ (k + 1) (by omega))) hz
            have gh85 := (qPatF_ag hA (ts.length + 1) (ts'.length + 1) [] i (by omega) (by omega) (by omega) (by rw [h85]; show j ≤ m; omega)).trans h85
            have gh86 := (agA hA (by omega)).trans h86
            have gh87 := (hx (j + 1) (by omega) (by omega) (by rw [h87]; show k ≤ m; omega)).trans h87
            have gh88 := (agA hA (by omega)).trans h88
            simp only [gh85, gh86, gh87, gh88, if_true, if_false, Bool.false_eq_true, agF hA (i := i) (by omega), agS hA (i := i) (by omega), agN hA (i := i) (by omega)]
            exact qArms_ag fr f f' _ _ (k + 1) (by omega) (by omega) (by omega) (by have := @agLt ts ts' m hA i (by omega) (by omega); omega) hz
theorem qMatch_ag (fr : Int) (i : Nat) (hb : b0 < i) (hi : i ≤ ts.length) : plQ (qMatch ts ex fr i) ≤ m → qMatch ts' ex' fr i = qMatch ts ex fr i := by
  unfold qMatch
  have k89 := he i (by omega)
  rcases h89 : ex i with ⟨e, q⟩ | ⟨x, j⟩
  · obtain ⟨_, _, _⟩ := okE k89 h89
    intro hz
    have hz : e ≤ m := hz
    have gh89 := (hx i (by omega) (by omega) (by rw [h89]; show e ≤ m; omega)).trans h89
    simp only [gh89, if_true, if_false, Bool.false_eq_true, agF hA (i := i) (by omega), agS hA (i := i) (by omega), agN hA (i := i) (by omega), agE hA (i := e) (by omega), agE hA (i := e + 1) (by omega)]
  · obtain ⟨_, _⟩ := okO k89 h89
    try simp only
    rcases h90 : at? ts j 2 [119, 105, 116, 104] with _ | _
    · simp only [Bool.false_eq_true, if_false]
      intro hz
      have hz : j ≤ m := hz
      have gh89 := (hx i (by omega) (by omega) (by rw [h89]; show j ≤ m; omega)).trans h89
      have gh90 := (agA hA (by omega)).trans h90
      simp only [gh89, gh90, if_true, if_false, Bool.false_eq_true, agF hA (i := i) (by omega), agS hA (i := i) (by omega), agN hA (i := i) (by omega), agE hA (i := j) (by omega), agE hA (i := j + 1) (by omega)]
    · simp only [if_true]
      have := atl h90
      intro hz
      have hpl := Nat.le_trans (plGe (qArms_ok ts he fr (ts.length + 1) [] [x] (j + 1) (by omega))) hz
      have gh89 := (hx i (by omega) (by omega) (by rw [h89]; show j ≤ m; omega)).trans h89
      have gh90 := (agA hA (by omega)).trans h90
      simp only [gh89, gh90, if_true, if_false, Bool.false_eq_true, agF hA (i := i) (by omega), agS hA (i := i) (by omega), agN hA (i := i) (by omega)]
      exact qArms_ag hA hx he fr (ts.length + 1) (ts'.length + 1) [] [x] (j + 1) (by omega) (by omega) (by omega) (by omega) hz
end
theorem qExprF_ag {ts ts' : List Tok} {m : Nat} (hA : Agr ts ts' m) : ∀ (f f' : Nat) (i : Nat), i ≤ ts.length → ts.length - i < f → ts'.length - i < f' → plQ (qExprF ts f i) ≤ m → qExprF ts' f' i = qExprF ts f i
  | 0, _, _, _, h, _ => absurd h (Nat.not_lt_zero _)
  | _, 0, _, _, _, h => absurd h (Nat.not_lt_zero _)
  | f + 1, f' + 1, i, hi, hf, hf' => by
    have he := qExprF_ok ts f
    have hx : ∀ j, i < j → j ≤ ts.length → plQ (qExprF ts f j) ≤ m → qExprF ts' f' j = qExprF ts f j := fun j h1 h2 h3 =>
      qExprF_ag hA f f' j h2 (by omega) (by have := plGe (qExprF_ok ts f j h2); have := @agLt ts ts' m hA i (by omega) (by omega); omega) h3
    unfold qExprF
    rcases h91 : at? ts i 2 [108, 101, 116] with _ | _
    · simp only [Bool.false_eq_true, if_false]
      rcases h92 : at? ts i 2 [102, 117, 110] with _ | _
      · simp only [Bool.false_eq_true, if_false]
        rcases h93 : at? ts i 2 [105, 102] with _ | _
        · simp only [Bool.false_eq_true, if_false]
          rcases h94 : at? ts i 2 [109, 97, 116, 99, 104] with _ | _
          · simp only [Bool.false_eq_true, if_false]
            intro hz
            have hpl := Nat.le_trans (plGe (qCmp_ok ts he i hi)) hz
            have gh91 := (agA hA (by omega)).trans h91
            have gh92 := (agA hA (by omega)).trans h92
            have gh93 := (agA hA (by omega)).trans h93
            have gh94 := (agA hA (by omega)).trans h94
            simp only [gh91, gh92, gh93, gh94, if_true, if_false, Bool.false_eq_true, agF hA (i := i) (by omega), agS hA (i := i) (by omega), agN hA (i := i) (by omega)]
            exact qCmp_ag hA hx he i (Nat.le_refl _) hi hz
          · simp only [if_true]
            have := atl h94
            intro hz
            have hpl := Nat.le_trans (plGe (qMatch_ok ts he (frE ts i) (i + 1) (by omega))) hz
            have gh91 := (agA hA (by omega)).trans h91
            have gh92 := (agA hA (by omega)).trans h92
            have gh93 := (agA hA (by omega)).trans h93
            have gh94 := (agA hA (by omega)).trans h94
            simp only [gh91, gh92, gh93, gh94, if_true, if_false, Bool.false_eq_true, agF hA (i := i) (by omega), agS hA (i := i) (by omega), agN hA (i := i) (by omega)]
            exact qMatch_ag hA hx he (frE ts i) (i + 1) (by omega) (by omega) hz
        · simp only [if_true]
          have := atl h93
          intro hz
          have hpl := Nat.le_trans (plGe (qIf_ok ts he (frE ts i) (i + 1) (by omega))) hz
          have gh91 := (agA hA (by omega)).trans h91
          have gh92 := (agA hA (by omega)).trans h92
          have gh93 := (agA hA (by omega)).trans h93
          simp only [gh91, gh92, gh93, if_true, if_false, Bool.false_eq_true, agF hA (i := i) (by omega), agS hA (i := i) (by omega), agN hA (i := i) (by omega)]
          exact qIfS_ag hA hx he (frE ts i) _ _ (i + 1) (by omega) (by omega) hz
      · simp only [if_true]
        have := atl h92
        intro hz
        have hpl := Nat.le_trans (plGe (qFun_ok ts he (frE ts i) (i + 1) (by omega))) hz
        have gh91 := (agA hA (by omega)).trans h91
        have gh92 := (agA hA (by omega)).trans h92
        simp only [gh91, gh92, if_true, if_false, Bool.false_eq_true, agF hA (i := i) (by omega), agS hA (i := i) (by omega), agN hA (i := i) (by omega)]
        exact qFun_ag hA hx he (frE ts i) (i + 1) (by omega) (by omega) hz
    · simp only [if_true]
      have := atl h91
      intro hz
      have hpl := Nat.le_trans (plGe (qLetR_ok ts he (frE ts i) (i + 1) (by omega))) hz
      have gh91 := (agA hA (by omega)).trans h91
      simp only [gh91, if_true, if_false, Bool.false_eq_true, agF hA (i := i) (by omega), agS hA (i := i) (by omega), agN hA (i := i) (by omega)]
      exact qLetR_ag hA hx he (frE ts i) (i + 1) (by omega) (by omega) hz

end Go.Proofs.Ytkipkplpmeholaa
