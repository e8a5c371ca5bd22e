/- Types numbered anew, the page's way: the same types; these are right; closed ones stay. -/
import Derived.Test.YtccdnmjijakofaaGreatDoorTm
namespace Go.Proofs.YtccdnmjijakofaaGreatDoor
open Go Go.RowKit
set_option linter.unusedVariables false

def mDeep : Nat → Ty → Bool
  | 0, _ => true
  | n + 1, t => t.kids.any (mDeep n)
def rAdd (l : List Int) (n : Int) : List Int := if n ∈ l then l else l ++ [n]
def rVars : Nat → Ty → List Int → List Int
  | 0, _, l => l
  | m + 1, t, l => t.kids.foldl (fun l k => rVars m k l) (if t.kind = 6 then rAdd l t.num else l)
def rPut : Nat → List Int → Ty → Ty
  | 0, _, t => t
  | m + 1, vs, t => if t.kind = 6 then (match ixOf 0 vs t.num with | some i => .mk 6 (i : Int) [] | none => t) else .mk t.kind 0 (t.kids.map (rPut m vs))
theorem seenAdd_keys : ∀ (es : Seen) (n : Int), (seenAdd es n).map (·.1) = rAdd (es.map (·.1)) n
  | [], n => rfl
  | p :: r, n => by
    have ih := seenAdd_keys r n
    rw [seenAdd]
    by_cases h : p.1 = n
    · rw [if_pos h]
      simp [rAdd, h]
    · rw [if_neg h, List.map_cons, ih]
      unfold rAdd
      have h' : ¬ n = p.1 := fun e => h e.symm
      by_cases h2 : n ∈ r.map (·.1)
      · rw [if_pos h2, if_pos (by simp only [List.map_cons, List.mem_cons]; exact .inr h2)]; rfl
      · rw [if_neg h2, if_neg (by simp only [List.map_cons, List.mem_cons, not_or]; exact ⟨h', h2⟩)]; rfl
theorem tVars_keys : ∀ (m : Nat) (t : Ty) (es : Seen), (tVars m t es).map (·.1) = rVars m t (es.map (·.1))
  | 0, _, _ => rfl
  | m + 1, t, es => by
    have key : ∀ (l : List Ty) (es : Seen), (l.foldl (fun es k => tVars m k es) es).map (·.1) = l.foldl (fun l k => rVars m k l) (es.map (·.1)) := by
      intro l
      induction l with
      | nil => intro es; rfl
      | cons a l ih => intro es; rw [List.foldl_cons, List.foldl_cons, ih, tVars_keys m a es]
    rw [tVars, rVars, key]
    split
    · rw [seenAdd_keys]
    · rfl
theorem rVars_of (t : Ty) : rVars t.size t [] = varsOf t := (tVars_keys t.size t []).symm
theorem rVars_len : ∀ (m : Nat) (t : Ty) (l : List Int), t.size ≤ m → (rVars m t l).length ≤ l.length + t.size
  | 0, t, _, h => absurd t.size_pos (by omega)
  | m + 1, t, l, h => by
    have key : ∀ (ks : List Ty) (l : List Int), Ty.sizes ks ≤ m → (ks.foldl (fun l k => rVars m k l) l).length ≤ l.length + Ty.sizes ks := by
      intro ks
      induction ks with
      | nil => intro l _; rw [List.foldl_nil, Ty.sizes]; omega
      | cons a ks ih =>
        intro l hs
        rw [Ty.sizes_cons] at hs ⊢
        rw [List.foldl_cons]
        have h1 := rVars_len m a l (by omega)
        have h2 := ih (rVars m a l) (by omega)
        omega
    rw [t.size_eq'] at h ⊢
    rw [rVars]
    have h1 : (if t.kind = 6 then rAdd l t.num else l).length ≤ l.length + 1 := by
      unfold rAdd
      split
      · split <;> simp
      · omega
    have h2 := key t.kids (if t.kind = 6 then rAdd l t.num else l) (by omega)
    omega
theorem mRight_leafnum {t : Ty} (h : mRight t = true) (h6 : ¬ t.kind = 6) : t.num = 0 := by
  rw [mRight_eq] at h
  simp only [Bool.and_eq_true, Bool.or_eq_true, decide_eq_true_eq] at h
  rcases h.1.2 with h1 | h1
  · exact absurd h1 h6
  · exact h1
theorem rPut_eq : ∀ (m : Nat) (vs : List Int) (t : Ty), mRight t = true → rPut m vs t = cPut m vs t
  | 0, _, _, _ => rfl
  | m + 1, vs, t, h => by
    rw [rPut, cPut]
    split
    · rfl
    · rename_i h6
      split
      · rename_i h0
        have := List.eq_nil_of_length_eq_zero h0
        have hn := mRight_leafnum h h6
        cases t
        simp only [Ty.kids, Ty.num, Ty.kind] at *
        rw [this, hn]; rfl
      · congr 1
        exact List.map_congr_left fun x hx => rPut_eq m vs x (mRights_mem (mRight_kids h) x hx)
theorem mRights_of : ∀ {l : List Ty}, (∀ x, x ∈ l → mRight x = true) → mRights l = true
  | [], _ => by rw [mRights]
  | a :: l, h => by rw [mRights, h a (by simp), mRights_of (fun x hx => h x (by simp [hx]))]; rfl
theorem cPut_right : ∀ (m : Nat) (vs : List Int) (t : Ty), vs.length ≤ 1000000 → mRight t = true → mRight (cPut m vs t) = true
  | 0, _, _, _, h => h
  | m + 1, vs, t, hv, h => by
    rw [cPut]
    split
    · split
      · rename_i i hi
        obtain ⟨j, rfl, hj⟩ := ixOf_some hi
        have := (List.getElem?_eq_some_iff.1 hj).1
        rw [mRight]
        simp [mKids, mRights]
        omega
      · exact h
    · rename_i h6
      split
      · exact h
      · have hk := mRight_kids h
        rw [mRight_eq] at h ⊢
        simp only [Bool.and_eq_true, Bool.or_eq_true, decide_eq_true_eq] at h ⊢
        refine ⟨⟨⟨⟨?_, ?_⟩, ?_⟩, .inr rfl⟩, mRights_of fun x hx => ?_⟩
        · have := h.1.1.1.1
          simp only [Ty.kids, Ty.kind, List.length_map]
          exact this
        · exact Int.le_refl 0
        · show (0 : Int) ≤ 1048576; decide
        · obtain ⟨y, hy, rfl⟩ := List.mem_map.1 hx
          exact cPut_right m vs y hv (mRights_mem hk y hy)
theorem canon_right {t : Ty} (h : mRight t = true) (hs : t.size ≤ 100000) : mRight (canon t) = true := by
  have := varsOf_ok t
  exact cPut_right _ _ _ (by omega) h
theorem mWithouts_mem {q : Int} : ∀ {l : List Ty}, mWithouts q l = true → ∀ x, x ∈ l → mWithout q x = true
  | [], _, x, hx => by simp at hx
  | a :: l, h, x, hx => by
    rw [mWithouts, Bool.and_eq_true] at h
    rcases List.mem_cons.1 hx with rfl | hx
    · exact h.1
    · exact mWithouts_mem h.2 x hx
theorem cPut_closed : ∀ (m : Nat) (vs : List Int) (t : Ty), mRight t = true → mWithout 6 t = true → cPut m vs t = t
  | 0, _, _, _, _ => rfl
  | m + 1, vs, t, h, hw => by
    rw [mWithout_eq, Bool.and_eq_true, Bool.not_eq_true', decide_eq_false_iff_not] at hw
    rw [cPut, if_neg hw.1]
    split
    · rfl
    · have hn := mRight_leafnum h hw.1
      have : t.kids.map (cPut m vs) = t.kids := by
        rw [List.map_congr_left (g := id) fun x hx => cPut_closed m vs x (mRights_mem (mRight_kids h) x hx) (mWithouts_mem hw.2 x hx)]
        simp
      rw [this]
      cases t
      simp only [Ty.num] at hn
      rw [hn]; rfl
theorem canon_closed {t : Ty} (h : mRight t = true) (hw : mWithout 6 t = true) : canon t = t := cPut_closed _ _ _ h hw
theorem tyT_right {t : Ty} (h : mRight t = true) (hs : t.size ≤ 100000) : tyT t = mTxt (canon t) := by
  unfold tyT
  rw [if_pos h, if_pos (canon_right h hs)]
theorem any_step {l : List Ty} {i : Nat} {x : Ty} (hx : l[i]? = some x) (p : Ty → Bool) : (l.drop i).any p = (p x || (l.drop (i + 1)).any p) := by rw [drop_get hx, List.any_cons]
def oR (l : List Int) : List (List D) := l.map fun v => [.lit (.int .i64 v)]
theorem oR_len (l : List Int) : (oR l).length = l.length := by simp [oR]
theorem oR_at {l : List Int} {i : Nat} {v : Int} (h : l[i]? = some v) : (oR l)[((i : Nat) : Int).toNat]? = some [.lit (.int .i64 v)] := by simp [oR, h]
theorem mem_drop {l : List Int} {i : Nat} {v : Int} (h : l[i]? = some v) (n : Int) : (n ∈ l.drop i) ↔ (n = v ∨ n ∈ l.drop (i + 1)) := by rw [drop_get h, List.mem_cons]
theorem ixOf_drop : ∀ {i : Nat} {vs : List Int} {j : Nat} {v n : Int}, vs[j]? = some v → ixOf (i + j) (vs.drop j) n = if v = n then some (i + j) else ixOf (i + (j + 1)) (vs.drop (j + 1)) n := by
  intro i vs j v n h
  rw [drop_get h, ixOf]
  rfl
end Go.Proofs.YtccdnmjijakofaaGreatDoor
