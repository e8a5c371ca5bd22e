/- Bundle of Ptm Pte Pt1 Pt2 Pt3. -/
import Derived.Test.YtlagglkpbnbmeaaGreatDoorRi5
import Derived.Test.YtlagglkpbnbmeaaGreatDoorPQ
import Derived.Test.YtlagglkpbnbmeaaGreatDoorShC
import Derived.Test.YtlagglkpbnbmeaaGreatDoorShZ
import Derived.Test.YtlagglkpbnbmeaaGreatDoorNt2
import Derived.Test.YtlagglkpbnbmeaaGreatDoorRi3
import Derived.Test.YtlagglkpbnbmeaaGreatDoorWX
import Derived.Test.YtlagglkpbnbmeaaGreatDoorRi6

/- The plain model of layer 7: the texts of patterns and expressions; which of them are right, by their forms. No program in sight. -/
namespace Go.Proofs.YtlagglkpbnbmeaaGreatDoor
set_option linter.unusedVariables false
set_option linter.unusedSimpArgs false
set_option maxRecDepth 100000

def truthT (n : Int) : List UInt8 := if n = 1 then [116, 114, 117, 101] else [102, 97, 108, 115, 101]
def kidT (k : Int) (t : List UInt8) : List UInt8 := if k = 9 then 40 :: (t ++ [41]) else t
mutual
def xPat : Pa → List UInt8
  | .mk k _ _ nm n s kids =>
    if k = 1 then [95] else if k = 2 then nm else if k = 3 then mNum n else if k = 4 then truthT n else if k = 5 then mLong s else if k = 6 then [40, 41] else if k = 8 then [91, 93]
    else if k = 7 then 40 :: (((xPs kids).getD 0 ([], [])).1 ++ [44, 32] ++ ((xPs kids).getD 1 ([], [])).1 ++ [41])
    else ((xPs kids).getD 0 ([], [])).2 ++ [32, 58, 58, 32] ++ ((xPs kids).getD 1 ([], [])).2
def xPs : List Pa → List (List UInt8 × List UInt8)
  | [] => []
  | p :: r => (xPat p, kidT p.kind (xPat p)) :: xPs r
end
def sortT (t : Ty) : List UInt8 := if t.kind = 0 then [] else [32, 58, 32] ++ mTxt t
def paramT (s : List UInt8) (t : Ty) : List UInt8 := if t.kind = 0 then s else 40 :: (s ++ [32, 58, 32] ++ mTxt t ++ [41])
def signT (op : Int) : List UInt8 := if op = 1 then [32, 43, 32] else if op = 2 then [32, 45, 32] else if op = 3 then [32, 42, 32] else if op = 4 then [32, 47, 32] else if op = 5 then [32, 60, 32] else if op = 6 then [32, 61, 32] else [32, 61, 61, 32]
def qT (k : Int) (t : List UInt8) : List UInt8 := if k = 1 ∨ k = 2 ∨ k = 3 ∨ k = 4 ∨ k = 5 ∨ k = 6 ∨ k = 7 ∨ k = 15 then t else 40 :: (t ++ [41])
def armsT : Bool → List Pa → List (List UInt8 × List UInt8) → List UInt8
  | _, [], _ => []
  | first, p :: ps, ts => (if first then [] else [32, 124, 32]) ++ xPat p ++ [32, 45, 62, 32] ++ (ts.headD ([], [])).1 ++ armsT false ps ts.tail
mutual
def xEx : Ex → List UInt8
  | .mk k _ _ nm arg n s op A B pats kids =>
    if k = 1 then nm else if k = 2 then mNum n else if k = 3 then truthT n else if k = 4 then mLong s else if k = 5 then [40, 41] else if k = 7 then [91, 93]
    else if k = 6 then 40 :: (((xExs kids).getD 0 ([], [])).1 ++ [44, 32] ++ ((xExs kids).getD 1 ([], [])).1 ++ [41])
    else if k = 8 then ((xExs kids).getD 0 ([], [])).2 ++ [32, 58, 58, 32] ++ ((xExs kids).getD 1 ([], [])).2
    else if k = 10 then ((xExs kids).getD 0 ([], [])).2 ++ [32] ++ ((xExs kids).getD 1 ([], [])).2
    else if k = 16 then ((xExs kids).getD 0 ([], [])).2 ++ signT op ++ ((xExs kids).getD 1 ([], [])).2
    else if k = 15 then 40 :: (((xExs kids).getD 0 ([], [])).1 ++ sortT A ++ [41])
    else if k = 9 then [102, 117, 110, 32] ++ paramT nm A ++ [32, 45, 62, 32] ++ ((xExs kids).getD 0 ([], [])).1
    else if k = 11 then [108, 101, 116, 32] ++ nm ++ sortT A ++ [32, 61, 32] ++ ((xExs kids).getD 0 ([], [])).1 ++ [32, 105, 110, 32] ++ ((xExs kids).getD 1 ([], [])).1
    else if k = 12 then [108, 101, 116, 32, 114, 101, 99, 32] ++ nm ++ [32] ++ paramT arg A ++ sortT B ++ [32, 61, 32] ++ ((xExs kids).getD 0 ([], [])).1 ++ [32, 105, 110, 32] ++ ((xExs kids).getD 1 ([], [])).1
    else if k = 13 then [105, 102, 32] ++ ((xExs kids).getD 0 ([], [])).1 ++ [32, 116, 104, 101, 110, 32] ++ ((xExs kids).getD 1 ([], [])).1 ++ [32, 101, 108, 115, 101, 32] ++ ((xExs kids).getD 2 ([], [])).1
    else [109, 97, 116, 99, 104, 32] ++ ((xExs kids).headD ([], [])).1 ++ [32, 119, 105, 116, 104, 32] ++ armsT true pats (xExs kids).tail ++ [32, 101, 110, 100]
def xExs : List Ex → List (List UInt8 × List UInt8)
  | [] => []
  | e :: r => (xEx e, qT e.kind (xEx e)) :: xExs r
end

inductive RPa : Pa → Prop
  | any (a b : Int) : RPa (.mk 1 a b [] 0 [] [])
  | name (a b : Int) (s : List UInt8) : mName s = true → RPa (.mk 2 a b s 0 [] [])
  | int (a b n : Int) : I64 n → RPa (.mk 3 a b [] n [] [])
  | bool (a b n : Int) : n = 0 ∨ n = 1 → RPa (.mk 4 a b [] n [] [])
  | str (a b : Int) (s : List UInt8) : s.length ≤ 200 → RPa (.mk 5 a b [] 0 s [])
  | unit (a b : Int) : RPa (.mk 6 a b [] 0 [] [])
  | pair (a b : Int) (x y : Pa) : RPa x → RPa y → RPa (.mk 7 a b [] 0 [] [x, y])
  | nil (a b : Int) : RPa (.mk 8 a b [] 0 [] [])
  | cons (a b : Int) (x y : Pa) : RPa x → RPa y → RPa (.mk 9 a b [] 0 [] [x, y])
def Ann (t : Ty) : Prop := t = noTy ∨ ClosedTy t
inductive REx : Ex → Prop
  | name (a b : Int) (s : List UInt8) : mName s = true → REx (.mk 1 a b s [] 0 [] 0 noTy noTy [] [])
  | int (a b n : Int) : I64 n → REx (.mk 2 a b [] [] n [] 0 noTy noTy [] [])
  | bool (a b n : Int) : n = 0 ∨ n = 1 → REx (.mk 3 a b [] [] n [] 0 noTy noTy [] [])
  | str (a b : Int) (s : List UInt8) : s.length ≤ 200 → REx (.mk 4 a b [] [] 0 s 0 noTy noTy [] [])
  | unit (a b : Int) : REx (.mk 5 a b [] [] 0 [] 0 noTy noTy [] [])
  | nil (a b : Int) : REx (.mk 7 a b [] [] 0 [] 0 noTy noTy [] [])
  | pair (a b : Int) (x y : Ex) : REx x → REx y → REx (.mk 6 a b [] [] 0 [] 0 noTy noTy [] [x, y])
  | cons (a b : Int) (x y : Ex) : REx x → REx y → REx (.mk 8 a b [] [] 0 [] 0 noTy noTy [] [x, y])
  | app (a b : Int) (x y : Ex) : REx x → REx y → REx (.mk 10 a b [] [] 0 [] 0 noTy noTy [] [x, y])
  | op (a b op : Int) (x y : Ex) : 1 ≤ op → op ≤ 7 → REx x → REx y → REx (.mk 16 a b [] [] 0 [] op noTy noTy [] [x, y])
  | asc (a b : Int) (A : Ty) (x : Ex) : ClosedTy A → REx x → REx (.mk 15 a b [] [] 0 [] 0 A noTy [] [x])
  | func (a b : Int) (s : List UInt8) (A : Ty) (x : Ex) : mName s = true → Ann A → REx x → REx (.mk 9 a b s [] 0 [] 0 A noTy [] [x])
  | letE (a b : Int) (s : List UInt8) (A : Ty) (x y : Ex) : mName s = true → Ann A → REx x → REx y → REx (.mk 11 a b s [] 0 [] 0 A noTy [] [x, y])
  | recE (a b : Int) (s g : List UInt8) (A B : Ty) (x y : Ex) : mName s = true → mName g = true → Ann A → Ann B → REx x → REx y → REx (.mk 12 a b s g 0 [] 0 A B [] [x, y])
  | ifE (a b : Int) (x y z : Ex) : REx x → REx y → REx z → REx (.mk 13 a b [] [] 0 [] 0 noTy noTy [] [x, y, z])
  | matchE (a b : Int) (x : Ex) (l : List (Pa × Ex)) : l ≠ [] → REx x → (∀ q, q ∈ l → RPa q.1) → (∀ q, q ∈ l → mCheckPat q.1 = true) → (∀ q, q ∈ l → REx q.2) → REx (.mk 14 a b [] [] 0 [] 0 noTy noTy (l.map (·.1)) (x :: l.map (·.2)))

inductive PaN : Pa → Prop
  | mk {k a b : Int} {nm : List UInt8} {m : Int} {s : List UInt8} {kids : List Pa} : I64 m → (∀ p, p ∈ kids → PaN p) → PaN (.mk k a b nm m s kids)
inductive ExN : Ex → Prop
  | mk {k a b : Int} {nm arg : List UInt8} {m : Int} {s : List UInt8} {op : Int} {A B : Ty} {pats : List Pa} {kids : List Ex} : I64 m → (∀ p, p ∈ pats → PaN p) → (∀ e, e ∈ kids → ExN e) → ExN (.mk k a b nm arg m s op A B pats kids)
theorem runP_own : ∀ (l : List Pa) (s : List (List UInt8)), (runL contP stepP s l).1 = true → l.all okPa = true
  | [], _, _ => rfl
  | q :: r, s, h => by
    rw [runL] at h
    cases hc : contP s q with
    | false => rw [hc] at h; cases h
    | true =>
      rw [hc] at h
      rw [List.all_cons, runP_own r _ h, Bool.and_true]
      unfold contP at hc
      rw [Bool.and_eq_true] at hc
      exact hc.1
theorem pasAll (l : List Pa) : (pasList l).all okPa = l.all fun p => p.list.all okPa := by
  induction l with
  | nil => rfl
  | cons p r ih => rw [pasList, List.all_append, List.all_cons, ih]
theorem len0 {α : Type} {l : List α} (h : l.length = 0) : l = [] := List.eq_nil_of_length_eq_zero h
theorem len2 {α : Type} {l : List α} (h : l.length = 2) : ∃ x y, l = [x, y] := by
  match l, h with
  | [x, y], _ => exact ⟨x, y, rfl⟩
theorem rpa_of {p : Pa} (hn : PaN p) : p.list.all okPa = true → RPa p := by
  induction hn with
  | @mk k a b nm m s kids hm hk ih =>
    intro h
    rw [Pa.list, List.all_cons, Bool.and_eq_true, pasAll] at h
    obtain ⟨h1, h2⟩ := h
    unfold okPa at h1
    simp only [Pa.kind, Pa.nm, Pa.n, Pa.s, Pa.kids] at h1
    have hkid : ∀ x, x ∈ kids → RPa x := fun x hx => ih x hx (List.all_eq_true.1 h2 x hx)
    unfold paSh at h1
    split at h1
    · cases h1
    · rename_i sa sb sc sd hsh
      split at hsh
      · cases hsh
        rename_i hk3
        simp only [Bool.and_eq_true, decide_eq_true_iff, Bool.false_or, Bool.or_eq_true, if_false, Bool.false_eq_true] at h1
        obtain ⟨⟨⟨⟨q1, q2⟩, _⟩, q3⟩, q4⟩ := h1
        obtain rfl := len0 (of_decide_eq_true q4)
        obtain rfl := of_decide_eq_true q1
        obtain rfl := of_decide_eq_true q2
        obtain rfl := of_decide_eq_true q3
        rcases hk3 with rfl | rfl | rfl
        · exact .any a b
        · exact .unit a b
        · exact .nil a b
      · split at hsh
        · cases hsh
          rename_i hk3
          subst hk3
          simp only [Bool.and_eq_true, decide_eq_true_iff, Bool.false_or, Bool.or_eq_true, if_true, if_false, Bool.false_eq_true] at h1
          obtain ⟨⟨⟨⟨q1, q2⟩, _⟩, q3⟩, q4⟩ := h1
          obtain rfl := len0 (of_decide_eq_true q4)
          obtain rfl := of_decide_eq_true q2
          obtain rfl := of_decide_eq_true q3
          exact .name a b nm q1
        · split at hsh
          · cases hsh
            rename_i hk3
            simp only [Bool.and_eq_true, decide_eq_true_iff, Bool.true_or, Bool.or_eq_true, if_true, if_false, Bool.false_eq_true] at h1
            obtain ⟨⟨⟨⟨q1, _⟩, q2⟩, q3⟩, q4⟩ := h1
            obtain rfl := len0 (of_decide_eq_true q4)
            obtain rfl := of_decide_eq_true q1
            obtain rfl := of_decide_eq_true q3
            rcases hk3 with rfl | rfl
            · exact .int a b m hm
            · refine .bool a b m ?_
              rcases q2 with (q2 | q2) | q2
              · exact absurd rfl (of_decide_eq_true q2)
              · exact .inl (of_decide_eq_true q2)
              · exact .inr (of_decide_eq_true q2)
          · split at hsh
            · cases hsh
              rename_i hk3
              subst hk3
              simp only [Bool.and_eq_true, decide_eq_true_iff, Bool.false_or, Bool.or_eq_true, if_true, if_false, Bool.false_eq_true] at h1
              obtain ⟨⟨⟨⟨q1, q2⟩, _⟩, q3⟩, q4⟩ := h1
              obtain rfl := len0 (of_decide_eq_true q4)
              obtain rfl := of_decide_eq_true q1
              obtain rfl := of_decide_eq_true q2
              exact .str a b s (of_decide_eq_true q3)
            · split at hsh
              · cases hsh
                rename_i hk3
                simp only [Bool.and_eq_true, decide_eq_true_iff, Bool.false_or, Bool.or_eq_true, if_false, Bool.false_eq_true] at h1
                obtain ⟨⟨⟨⟨q1, q2⟩, _⟩, q3⟩, q4⟩ := h1
                obtain ⟨x, y, rfl⟩ := len2 (of_decide_eq_true q4)
                obtain rfl := of_decide_eq_true q1
                obtain rfl := of_decide_eq_true q2
                obtain rfl := of_decide_eq_true q3
                rcases hk3 with rfl | rfl
                · exact .pair a b x y (hkid x (by simp)) (hkid y (by simp))
                · exact .cons a b x y (hkid x (by simp)) (hkid y (by simp))
              · cases hsh
theorem noTy_of {t : Ty} (h : mNone t = true) : t = noTy := by
  unfold mNone at h
  simp only [Bool.and_eq_true, decide_eq_true_eq] at h
  cases t with
  | mk k n ks =>
    obtain ⟨⟨h1, h2⟩, h3⟩ := h
    have : k = 0 := h1
    have : n = 0 := h2
    have : ks = [] := len0 h3
    subst_vars
    rfl
theorem closedTy_of {t : Ty} (h : mClosed t = true) : ClosedTy t := by
  unfold mClosed at h
  rw [Bool.and_eq_true] at h
  exact closed_right h.1 h.2

end Go.Proofs.YtlagglkpbnbmeaaGreatDoor

/- The plain model of layer 7: right expressions have the forms of REx. No program in sight. -/
namespace Go.Proofs.YtlagglkpbnbmeaaGreatDoor
set_option linter.unusedVariables false
set_option linter.unusedSimpArgs false
set_option maxRecDepth 100000

theorem check_mk7 (k a b : Int) (nm arg : List UInt8) (m : Int) (s : List UInt8) (op : Int) (A B : Ty) (pats : List Pa) (kids : List Ex) : mCheck (.mk k a b nm arg m s op A B pats kids) = (oneE (.mk k a b nm arg m s op A B pats kids) && kids.all mCheck) := by
  unfold mCheck
  rw [Ex.list, List.all_cons]
  congr 1
  induction kids with
  | nil => rfl
  | cons e r ih => rw [exsList, List.all_append, List.all_cons, ih]
theorem one_facts {e : Ex} (h : oneE e = true) : (shOf e).ok = true ∧ (e.kids.length : Int) = (shOf e).kids ∧ (e.kind = 14 ∨ e.pats = []) ∧ ((shOf e).name = true → mName e.nm = true) ∧ ((shOf e).name = false → e.nm = []) ∧ ((shOf e).arg = true → mName e.arg = true) ∧ ((shOf e).arg = false → e.arg = []) ∧
    ((shOf e).n = false → e.n = 0) ∧ (e.kind = 3 → e.n = 0 ∨ e.n = 1) ∧ ((shOf e).s = false → e.s = []) ∧ e.s.length ≤ 200 ∧ ((shOf e).op = true → 1 ≤ e.op ∧ e.op ≤ 7) ∧ ((shOf e).op = false → e.op = 0) ∧ (mNone e.A = true ∨ ((shOf e).a = true ∧ mClosed e.A = true)) ∧ ((shOf e).must = true → mNone e.A = false) ∧
    (mNone e.B = true ∨ ((shOf e).b = true ∧ mClosed e.B = true)) ∧ e.pats.all mCheckPat = true := by
  unfold oneE at h
  simp only [Bool.and_eq_true, Bool.not_eq_true'] at h
  obtain ⟨⟨⟨⟨⟨⟨⟨⟨h2, h4⟩, h6⟩, h8⟩, h10⟩, h12⟩, h14⟩, h16⟩, hp⟩ := h
  unfold k2 at h2
  unfold k4 at h4
  unfold k6 at h6
  unfold k8 at h8
  unfold k10 at h10
  unfold k12 at h12
  unfold k14 at h14
  unfold k16 at h16
  simp only [Bool.or_eq_false_iff, Bool.and_eq_false_iff, decide_eq_false_iff_not, Bool.not_eq_false', Decidable.not_not] at h2 h4 h6 h8 h10 h12 h14 h16
  refine ⟨h2.1.1, h2.1.2, ?_, fun q => ?_, fun q => ?_, fun q => ?_, fun q => ?_, fun q => ?_, fun q => ?_, fun q => ?_, by omega, fun q => ?_, fun q => ?_, ?_, fun q => ?_, ?_, hp⟩
  · rcases h2.2 with q | q
    · exact .inl q
    · exact .inr (len0 (by omega))
  · rcases h4.1 with r | r
    · rw [q] at r; cases r
    · exact r
  · rcases h4.2 with r | r
    · rw [q] at r; cases r
    · exact r
  · rcases h6.1 with r | r
    · rw [q] at r; cases r
    · exact r
  · rcases h6.2 with r | r
    · rw [q] at r; cases r
    · exact r
  · rcases h8.1 with r | r
    · rw [q] at r; cases r
    · exact r
  · rcases h8.2 with (r | r) | r
    · exact absurd q r
    · exact .inl r
    · exact .inr r
  · rcases h10.1 with r | r
    · rw [q] at r; cases r
    · exact r
  · rcases h12.1 with r | r
    · rw [q] at r; cases r
    · omega
  · rcases h12.2 with r | r
    · rw [q] at r; cases r
    · exact r
  · rcases h14.1 with r | r
    · exact .inl r
    · exact .inr r
  · rcases h14.2 with r | r
    · rw [q] at r; cases r
    · exact r
  · rcases h16 with r | r
    · exact .inl r
    · exact .inr r
theorem ann_of {t : Ty} {b : Prop} (h : mNone t = true ∨ (b ∧ mClosed t = true)) : Ann t := h.elim (fun h => .inl (noTy_of h)) (fun h => .inr (closedTy_of h.2))
theorem noann_of {t : Ty} (h : mNone t = true ∨ (false = true ∧ mClosed t = true)) : t = noTy := h.elim noTy_of (fun h => by cases h.1)
theorem len1 {α : Type} {l : List α} (h : l.length = 1) : ∃ x, l = [x] := by
  match l, h with
  | [x], _ => exact ⟨x, rfl⟩
theorem len3 {α : Type} {l : List α} (h : l.length = 3) : ∃ x y z, l = [x, y, z] := by
  match l, h with
  | [x, y, z], _ => exact ⟨x, y, z, rfl⟩
theorem zipped {α β : Type} : ∀ {ps : List α} {ks : List β}, ks.length = ps.length → ∃ l : List (α × β), ps = l.map (·.1) ∧ ks = l.map (·.2)
  | [], [], _ => ⟨[], rfl, rfl⟩
  | p :: ps, k :: ks, h => by
    obtain ⟨l, h1, h2⟩ := zipped (ps := ps) (ks := ks) (by simpa using h)
    exact ⟨(p, k) :: l, by rw [h1]; rfl, by rw [h2]; rfl⟩
  | [], _ :: _, h => by simp at h
  | _ :: _, [], h => by simp at h
theorem rex_of {e : Ex} (hn : ExN e) : mCheck e = true → REx e := by
  induction hn with
  | @mk k a b nm arg m s op A B pats kids hm hpn hkn ih =>
    intro h
    rw [check_mk7, Bool.and_eq_true] at h
    obtain ⟨h1, h2⟩ := h
    have hkid : ∀ x, x ∈ kids → REx x := fun x hx => ih x hx (List.all_eq_true.1 h2 x hx)
    obtain ⟨f1, f2, f3, f4, f5, f6, f7, f8, f9, f10, f11, f12, f13, f14, f15, f16, f17⟩ := one_facts h1
    simp only [Ex.kind, Ex.nm, Ex.arg, Ex.n, Ex.s, Ex.op, Ex.A, Ex.B, Ex.pats, Ex.kids] at f2 f3 f4 f5 f6 f7 f8 f9 f10 f11 f12 f13 f14 f15 f16 f17
    by_cases q1 : k = 1
    · subst q1
      have hs : shOf (.mk 1 a b nm arg m s op A B pats kids) = ⟨true, false, false, false, false, false, false, false, 0, true⟩ := rfl
      rw [hs] at f1 f2 f4 f5 f6 f7 f8 f10 f12 f13 f14 f15 f16
      simp only at f1 f2 f4 f5 f6 f7 f8 f10 f12 f13 f14 f15 f16
      have z0 := f7 (by trivial)
      have z1 := f8 (by trivial)
      have z2 := f10 (by trivial)
      have z3 := f13 (by trivial)
      have z4 := noann_of f14
      have z5 := noann_of f16
      have zp := f3.resolve_left (by decide)
      have zk := len0 (l := kids) (by omega)
      subst z0 z1 z2 z3 z4 z5 zp zk
      exact .name a b nm (f4 (by trivial))
    by_cases q2 : k = 2
    · subst q2
      have hs : shOf (.mk 2 a b nm arg m s op A B pats kids) = ⟨false, false, true, false, false, false, false, false, 0, true⟩ := rfl
      rw [hs] at f1 f2 f4 f5 f6 f7 f8 f10 f12 f13 f14 f15 f16
      simp only at f1 f2 f4 f5 f6 f7 f8 f10 f12 f13 f14 f15 f16
      have z0 := f5 (by trivial)
      have z1 := f7 (by trivial)
      have z2 := f10 (by trivial)
      have z3 := f13 (by trivial)
      have z4 := noann_of f14
      have z5 := noann_of f16
      have zp := f3.resolve_left (by decide)
      have zk := len0 (l := kids) (by omega)
      subst z0 z1 z2 z3 z4 z5 zp zk
      exact .int a b m hm
    by_cases q3 : k = 3
    · subst q3
      have hs : shOf (.mk 3 a b nm arg m s op A B pats kids) = ⟨false, false, true, false, false, false, false, false, 0, true⟩ := rfl
      rw [hs] at f1 f2 f4 f5 f6 f7 f8 f10 f12 f13 f14 f15 f16
      simp only at f1 f2 f4 f5 f6 f7 f8 f10 f12 f13 f14 f15 f16
      have z0 := f5 (by trivial)
      have z1 := f7 (by trivial)
      have z2 := f10 (by trivial)
      have z3 := f13 (by trivial)
      have z4 := noann_of f14
      have z5 := noann_of f16
      have zp := f3.resolve_left (by decide)
      have zk := len0 (l := kids) (by omega)
      subst z0 z1 z2 z3 z4 z5 zp zk
      exact .bool a b m (f9 (by trivial))
    by_cases q4 : k = 4
    · subst q4
      have hs : shOf (.mk 4 a b nm arg m s op A B pats kids) = ⟨false, false, false, true, false, false, false, false, 0, true⟩ := rfl
      rw [hs] at f1 f2 f4 f5 f6 f7 f8 f10 f12 f13 f14 f15 f16
      simp only at f1 f2 f4 f5 f6 f7 f8 f10 f12 f13 f14 f15 f16
      have z0 := f5 (by trivial)
      have z1 := f7 (by trivial)
      have z2 := f8 (by trivial)
      have z3 := f13 (by trivial)
      have z4 := noann_of f14
      have z5 := noann_of f16
      have zp := f3.resolve_left (by decide)
      have zk := len0 (l := kids) (by omega)
      subst z0 z1 z2 z3 z4 z5 zp zk
      exact .str a b s f11
    by_cases q5 : k = 5
    · subst q5
      have hs : shOf (.mk 5 a b nm arg m s op A B pats kids) = ⟨false, false, false, false, false, false, false, false, 0, true⟩ := rfl
      rw [hs] at f1 f2 f4 f5 f6 f7 f8 f10 f12 f13 f14 f15 f16
      simp only at f1 f2 f4 f5 f6 f7 f8 f10 f12 f13 f14 f15 f16
      have z0 := f5 (by trivial)
      have z1 := f7 (by trivial)
      have z2 := f8 (by trivial)
      have z3 := f10 (by trivial)
      have z4 := f13 (by trivial)
      have z5 := noann_of f14
      have z6 := noann_of f16
      have zp := f3.resolve_left (by decide)
      have zk := len0 (l := kids) (by omega)
      subst z0 z1 z2 z3 z4 z5 z6 zp zk
      exact .unit a b
    by_cases q7 : k = 7
    · subst q7
      have hs : shOf (.mk 7 a b nm arg m s op A B pats kids) = ⟨false, false, false, false, false, false, false, false, 0, true⟩ := rfl
      rw [hs] at f1 f2 f4 f5 f6 f7 f8 f10 f12 f13 f14 f15 f16
      simp only at f1 f2 f4 f5 f6 f7 f8 f10 f12 f13 f14 f15 f16
      have z0 := f5 (by trivial)
      have z1 := f7 (by trivial)
      have z2 := f8 (by trivial)
      have z3 := f10 (by trivial)
      have z4 := f13 (by trivial)
      have z5 := noann_of f14
      have z6 := noann_of f16
      have zp := f3.resolve_left (by decide)
      have zk := len0 (l := kids) (by omega)
      subst z0 z1 z2 z3 z4 z5 z6 zp zk
      exact .nil a b
    by_cases q6 : k = 6
    · subst q6
      have hs : shOf (.mk 6 a b nm arg m s op A B pats kids) = ⟨false, false, false, false, false, false, false, false, 2, true⟩ := rfl
      rw [hs] at f1 f2 f4 f5 f6 f7 f8 f10 f12 f13 f14 f15 f16
      simp only at f1 f2 f4 f5 f6 f7 f8 f10 f12 f13 f14 f15 f16
      have z0 := f5 (by trivial)
      have z1 := f7 (by trivial)
      have z2 := f8 (by trivial)
      have z3 := f10 (by trivial)
      have z4 := f13 (by trivial)
      have z5 := noann_of f14
      have z6 := noann_of f16
      have zp := f3.resolve_left (by decide)
      obtain ⟨x, y, zk⟩ := len2 (l := kids) (by omega)
      subst z0 z1 z2 z3 z4 z5 z6 zp zk
      exact .pair a b x y (hkid x (by simp)) (hkid y (by simp))
    by_cases q8 : k = 8
    · subst q8
      have hs : shOf (.mk 8 a b nm arg m s op A B pats kids) = ⟨false, false, false, false, false, false, false, false, 2, true⟩ := rfl
      rw [hs] at f1 f2 f4 f5 f6 f7 f8 f10 f12 f13 f14 f15 f16
      simp only at f1 f2 f4 f5 f6 f7 f8 f10 f12 f13 f14 f15 f16
      have z0 := f5 (by trivial)
      have z1 := f7 (by trivial)
      have z2 := f8 (by trivial)
      have z3 := f10 (by trivial)
      have z4 := f13 (by trivial)
      have z5 := noann_of f14
      have z6 := noann_of f16
      have zp := f3.resolve_left (by decide)
      obtain ⟨x, y, zk⟩ := len2 (l := kids) (by omega)
      subst z0 z1 z2 z3 z4 z5 z6 zp zk
      exact .cons a b x y (hkid x (by simp)) (hkid y (by simp))
    by_cases q10 : k = 10
    · subst q10
      have hs : shOf (.mk 10 a b nm arg m s op A B pats kids) = ⟨false, false, false, false, false, false, false, false, 2, true⟩ := rfl
      rw [hs] at f1 f2 f4 f5 f6 f7 f8 f10 f12 f13 f14 f15 f16
      simp only at f1 f2 f4 f5 f6 f7 f8 f10 f12 f13 f14 f15 f16
      have z0 := f5 (by trivial)
      have z1 := f7 (by trivial)
      have z2 := f8 (by trivial)
      have z3 := f10 (by trivial)
      have z4 := f13 (by trivial)
      have z5 := noann_of f14
      have z6 := noann_of f16
      have zp := f3.resolve_left (by decide)
      obtain ⟨x, y, zk⟩ := len2 (l := kids) (by omega)
      subst z0 z1 z2 z3 z4 z5 z6 zp zk
      exact .app a b x y (hkid x (by simp)) (hkid y (by simp))
    by_cases q9 : k = 9
    · subst q9
      have hs : shOf (.mk 9 a b nm arg m s op A B pats kids) = ⟨true, false, false, false, false, true, false, false, 1, true⟩ := rfl
      rw [hs] at f1 f2 f4 f5 f6 f7 f8 f10 f12 f13 f14 f15 f16
      simp only at f1 f2 f4 f5 f6 f7 f8 f10 f12 f13 f14 f15 f16
      have z0 := f7 (by trivial)
      have z1 := f8 (by trivial)
      have z2 := f10 (by trivial)
      have z3 := f13 (by trivial)
      have z4 := noann_of f16
      have zp := f3.resolve_left (by decide)
      obtain ⟨x, zk⟩ := len1 (l := kids) (by omega)
      subst z0 z1 z2 z3 z4 zp zk
      exact .func a b nm A x (f4 (by trivial)) (ann_of f14) (hkid x (by simp))
    by_cases q11 : k = 11
    · subst q11
      have hs : shOf (.mk 11 a b nm arg m s op A B pats kids) = ⟨true, false, false, false, false, true, false, false, 2, true⟩ := rfl
      rw [hs] at f1 f2 f4 f5 f6 f7 f8 f10 f12 f13 f14 f15 f16
      simp only at f1 f2 f4 f5 f6 f7 f8 f10 f12 f13 f14 f15 f16
      have z0 := f7 (by trivial)
      have z1 := f8 (by trivial)
      have z2 := f10 (by trivial)
      have z3 := f13 (by trivial)
      have z4 := noann_of f16
      have zp := f3.resolve_left (by decide)
      obtain ⟨x, y, zk⟩ := len2 (l := kids) (by omega)
      subst z0 z1 z2 z3 z4 zp zk
      exact .letE a b nm A x y (f4 (by trivial)) (ann_of f14) (hkid x (by simp)) (hkid y (by simp))
    by_cases q12 : k = 12
    · subst q12
      have hs : shOf (.mk 12 a b nm arg m s op A B pats kids) = ⟨true, true, false, false, false, true, true, false, 2, true⟩ := rfl
      rw [hs] at f1 f2 f4 f5 f6 f7 f8 f10 f12 f13 f14 f15 f16
      simp only at f1 f2 f4 f5 f6 f7 f8 f10 f12 f13 f14 f15 f16
      have z0 := f8 (by trivial)
      have z1 := f10 (by trivial)
      have z2 := f13 (by trivial)
      have zp := f3.resolve_left (by decide)
      obtain ⟨x, y, zk⟩ := len2 (l := kids) (by omega)
      subst z0 z1 z2 zp zk
      exact .recE a b nm arg A B x y (f4 (by trivial)) (f6 (by trivial)) (ann_of f14) (ann_of f16) (hkid x (by simp)) (hkid y (by simp))
    by_cases q13 : k = 13
    · subst q13
      have hs : shOf (.mk 13 a b nm arg m s op A B pats kids) = ⟨false, false, false, false, false, false, false, false, 3, true⟩ := rfl
      rw [hs] at f1 f2 f4 f5 f6 f7 f8 f10 f12 f13 f14 f15 f16
      simp only at f1 f2 f4 f5 f6 f7 f8 f10 f12 f13 f14 f15 f16
      have z0 := f5 (by trivial)
      have z1 := f7 (by trivial)
      have z2 := f8 (by trivial)
      have z3 := f10 (by trivial)
      have z4 := f13 (by trivial)
      have z5 := noann_of f14
      have z6 := noann_of f16
      have zp := f3.resolve_left (by decide)
      obtain ⟨x, y, z, zk⟩ := len3 (l := kids) (by omega)
      subst z0 z1 z2 z3 z4 z5 z6 zp zk
      exact .ifE a b x y z (hkid x (by simp)) (hkid y (by simp)) (hkid z (by simp))
    by_cases q15 : k = 15
    · subst q15
      have hs : shOf (.mk 15 a b nm arg m s op A B pats kids) = ⟨false, false, false, false, false, true, false, true, 1, true⟩ := rfl
      rw [hs] at f1 f2 f4 f5 f6 f7 f8 f10 f12 f13 f14 f15 f16
      simp only at f1 f2 f4 f5 f6 f7 f8 f10 f12 f13 f14 f15 f16
      have z0 := f5 (by trivial)
      have z1 := f7 (by trivial)
      have z2 := f8 (by trivial)
      have z3 := f10 (by trivial)
      have z4 := f13 (by trivial)
      have z5 := noann_of f16
      have zp := f3.resolve_left (by decide)
      obtain ⟨x, zk⟩ := len1 (l := kids) (by omega)
      subst z0 z1 z2 z3 z4 z5 zp zk
      exact .asc a b A x (by rcases f14 with q | q; rw [f15 (by trivial)] at q; cases q; exact closedTy_of q.2) (hkid x (by simp))
    by_cases q16 : k = 16
    · subst q16
      have hs : shOf (.mk 16 a b nm arg m s op A B pats kids) = ⟨false, false, false, false, true, false, false, false, 2, true⟩ := rfl
      rw [hs] at f1 f2 f4 f5 f6 f7 f8 f10 f12 f13 f14 f15 f16
      simp only at f1 f2 f4 f5 f6 f7 f8 f10 f12 f13 f14 f15 f16
      have z0 := f5 (by trivial)
      have z1 := f7 (by trivial)
      have z2 := f8 (by trivial)
      have z3 := f10 (by trivial)
      have z4 := noann_of f14
      have z5 := noann_of f16
      have zp := f3.resolve_left (by decide)
      obtain ⟨x, y, zk⟩ := len2 (l := kids) (by omega)
      subst z0 z1 z2 z3 z4 z5 zp zk
      exact .op a b op x y (f12 (by trivial)).1 (f12 (by trivial)).2 (hkid x (by simp)) (hkid y (by simp))
    by_cases q14 : k = 14
    · subst q14
      have hs : shOf (.mk 14 a b nm arg m s op A B pats kids) = ⟨false, false, false, false, false, false, false, false, ((pats.length : Int) + 1), decide (0 < pats.length)⟩ := rfl
      rw [hs] at f1 f2 f4 f5 f6 f7 f8 f10 f12 f13 f14 f15 f16
      simp only at f1 f2 f4 f5 f6 f7 f8 f10 f12 f13 f14 f15 f16
      have z0 := f5 (by trivial)
      have z1 := f7 (by trivial)
      have z2 := f8 (by trivial)
      have z3 := f10 (by trivial)
      have z4 := f13 (by trivial)
      have z5 := noann_of f14
      have z6 := noann_of f16
      subst z0 z1 z2 z3 z4 z5 z6
      cases kids with
      | nil => simp at f2; omega
      | cons x r =>
        obtain ⟨l, z7, z8⟩ := zipped (ps := pats) (ks := r) (by simp at f2; omega)
        subst z7 z8
        have c1 : ∀ q, q ∈ l → mCheckPat q.1 = true := fun q hq => List.all_eq_true.1 f17 q.1 (List.mem_map.2 ⟨q, hq, rfl⟩)
        refine .matchE a b x l (fun e => ?_) (hkid x (by simp)) (fun q hq => rpa_of (hpn q.1 (List.mem_map.2 ⟨q, hq, rfl⟩)) (runP_own _ _ (c1 q hq))) c1 (fun q hq => hkid q.2 (List.mem_cons_of_mem _ (List.mem_map.2 ⟨q, hq, rfl⟩)))
        subst e; simp at f1
    exfalso
    have hs : shOf (.mk k a b nm arg m s op A B pats kids) = ⟨false, false, false, false, false, false, false, false, 0, false⟩ := by
      unfold shOf
      simp only [Ex.kind, q1, q2, q3, q4, q5, q7, q6, q8, q10, q9, q11, q12, q13, q15, q16, q14, or_self, if_false]
    rw [hs] at f1
    cases f1

end Go.Proofs.YtlagglkpbnbmeaaGreatDoor

/- The program's texts of patterns. -/
namespace Go.Proofs.YtlagglkpbnbmeaaGreatDoor
open Go Go.RowKit
set_option maxRecDepth 100000
set_option maxHeartbeats 2000000
set_option linter.unusedVariables false
set_option linter.unusedSimpArgs false

section
variable {P : Program} {nn : Nat} {ins : List Nat} {l : List (Nat × F)} {K : Cont} {o : Oper} {d : Nat} {l0 : List (Nat × F)} {id : Nat} {ops : Array Oper} {draw : Bool} {ii : Nat} {acc : List Stp}
theorem uR {t : Nat} {x : Operand} {T U e : TypeId} {s : List UInt8} {els : List (List D)} (h : JR P nn ins l0 id ops draw K (ii + 1) ([(d, .own e 1 (els ++ bcells s)), (t, .non)] ++ l) (⟨gk ops o ++ (t :: rdOf x), [], [(d, .own e 1 (els ++ bcells s)), (t, .non)]⟩ :: acc)) (g1 : ops[ii]? = some o := by exact rfl) (g2 : wantB ops l o = some true := by exact rfl) (ho : o.op = .call { callee := .builtin .append, args := #[.tmp t, x], argTypes := #[T, U] } := by exact rfl) (hd : o.dst = some d := by exact rfl)
    (ht : opd l (.tmp t) = some (.own e 1 els) := by exact rfl) (hx : opd l x = some (.c (.lit (str s))) := by exact rfl) (hT : elemI P T = some (e, 1, 1) := by kernel_rfl) (hz0 : byteT P e = true := by kernel_rfl) (hU : stringT P U = true := by kernel_rfl) (hs : els.length + s.length ≤ 140737488355328 := by (try simp only [List.length_append, List.length_cons, List.length_nil, bcells_len, Ex.nm, Ex.arg, Pa.nm]); omega) : JR P nn ins l0 id ops draw K ii l acc := JR.run g1 g2 (r_appendS ho hd hT hz0 hU ht hx hs) h
theorem uV {t : Nat} {x : Operand} {T e : TypeId} {els news : List (List D)} (h : JR P nn ins l0 id ops draw K (ii + 1) ([(d, .own e 1 (els ++ news)), (t, .non)] ++ l) (⟨gk ops o ++ (t :: rdOf x), [], [(d, .own e 1 (els ++ news)), (t, .non)]⟩ :: acc)) (g1 : ops[ii]? = some o := by exact rfl) (g2 : wantB ops l o = some true := by exact rfl) (ho : o.op = .call { callee := .builtin .append, args := #[.tmp t, x], argTypes := #[T, T] } := by exact rfl) (hd : o.dst = some d := by exact rfl)
    (ht : opd l (.tmp t) = some (.own e 1 els) := by exact rfl) (hx : opd l x = some (.c (.sl 1 news)) := by exact rfl) (hT : elemI P T = some (e, 1, 1) := by kernel_rfl) (hb : (els.length + news.length) * 1 ≤ 140737488355328 := by (try simp only [List.length_append, List.length_cons, List.length_nil, bcells_len, Ex.nm, Ex.arg, Pa.nm]); omega) (hs : els.length + news.length ≤ 140737488355328 := by (try simp only [List.length_append, List.length_cons, List.length_nil, bcells_len, Ex.nm, Ex.arg, Pa.nm]); omega) : JR P nn ins l0 id ops draw K ii l acc := JR.run g1 g2 (r_append ho hd hT ht hx hb hs) h
end
theorem pNum (n : Int) (h : I64 n) : Con Tryz.prog 56 [.c (.lit (.int .i64 n))] [] (.c (.lit (str (mNum n)))) [] := by
  refine con_below (by simp [Flat]) trivial (by simp) fun S w args B hsz harg hS htt hB => ?_
  rw [args_one hsz (lit_val (ρ := fun _ => 0) (harg 0 _ rfl))]; refine (wordNum_any n h.1 (by have := h.2; omega) w htt.tab).mono ?_; rintro e w' ⟨rfl, hbl⟩; exact ⟨_, rfl, hbl, fun _ _ _ => .lit _ rfl⟩
theorem pQuote (s : List UInt8) (h : s.length ≤ 200) : Con Tryz.prog 101 [.c (.lit (str s))] [] (.tup [.c (.lit (str (mLong s))), .c (.lit (.int .i64 0))]) [] := by
  have h1 : quoV s = mLong s := by simp [quoV, mQuote, h]
  have h2 : quoE s = 0 := by simp [quoE, mQuote, h]
  refine con_below (by simp [Flat]) trivial (by simp) fun S w args B hsz harg hS htt hB => ?_
  rw [args_one hsz (lit_val (ρ := fun _ => 0) (harg 0 _ rfl))]; refine (wordQuote_any s w (by omega)).mono ?_; rintro e w' ⟨rfl, hbl⟩; rw [h1, h2]; exact ⟨_, rfl, hbl, fun _ _ _ => ⟨[str (mLong s), .int .i64 0], rfl, .lit _ rfl, .lit _ rfl, trivial⟩⟩
theorem xPat_1 (a b : Int) : xPat (.mk 1 a b [] 0 [] []) = [95] := by rw [xPat]; rfl
theorem xPat_2 (a b : Int) (s : List UInt8) : xPat (.mk 2 a b s 0 [] []) = s := by rw [xPat]; rfl
theorem xPat_3 (a b n : Int) : xPat (.mk 3 a b [] n [] []) = mNum n := by rw [xPat]; rfl
theorem xPat_4 (a b n : Int) : xPat (.mk 4 a b [] n [] []) = truthT n := by rw [xPat]; rfl
theorem xPat_5 (a b : Int) (s : List UInt8) : xPat (.mk 5 a b [] 0 s []) = mLong s := by rw [xPat]; rfl
theorem xPat_6 (a b : Int) : xPat (.mk 6 a b [] 0 [] []) = [40, 41] := by rw [xPat]; rfl
theorem xPat_8 (a b : Int) : xPat (.mk 8 a b [] 0 [] []) = [91, 93] := by rw [xPat]; rfl
theorem xPat_7 (a b : Int) (x y : Pa) : xPat (.mk 7 a b [] 0 [] [x, y]) = 40 :: (xPat x ++ [44, 32] ++ xPat y ++ [41]) := by rw [xPat, xPs, xPs, xPs]; rfl
theorem xPat_9 (a b : Int) (x y : Pa) : xPat (.mk 9 a b [] 0 [] [x, y]) = kidT x.kind (xPat x) ++ [32, 58, 58, 32] ++ kidT y.kind (xPat y) := by rw [xPat, xPs, xPs, xPs]; rfl
theorem tQuote (s : List UInt8) (h : s.length ≤ 200) : Con Tryz.prog 58 [.c (.lit (str s))] [] (.c (.lit (str (mLong s)))) [] := by
  refine gg [38,5,1,0,9,2,2,0,5,2] ?_; refine gc (pQuote s h) [2,14,14,1,1,0,9,2,3,2,5,2,1,0,9,1,2,33] ?_; exact ⟨.inl rfl, _, rfl, .refl _, trivial⟩

theorem tTruth (els : List (List D)) (n : Int) (h : els.length + (truthT n).length ≤ 1000000000) : Con Tryz.prog 57 [.own byK 1 (els), .c (.lit (.int .i64 n))] [] (.own byK 1 (els ++ bcells (truthT n))) [] := by
  refine gg [38,5,1,0,9,3,4,1,0,31,5,2] ?_; refine bE ?_ ?_
  · intro h6; rw [truthT, if_pos h6] at h; simp only [List.length_cons, List.length_nil] at h; refine gg [0,9,3,6,4,0,32,5,29] ?_; refine uR ?_; refine gg [28,0,9,1,4,33] ?_; exact ⟨.inl rfl, _, rfl, .of (by rw [truthT, if_pos h6]), trivial⟩
  intro h6; rw [truthT, if_neg h6] at h; simp only [List.length_cons, List.length_nil] at h; refine gg [0,9,3,6,4,0,8,34,5,29] ?_; refine uR ?_; refine gg [28,0,9,1,4,33] ?_; exact ⟨.inl rfl, _, rfl, .of (by rw [truthT, if_neg h6]), trivial⟩

abbrev PutP (p : Pa) : Prop := ∀ els : List (List D), els.length + (xPat p).length ≤ 1000000000 → Con Tryz.prog 33 [.own byK 1 (els), .agg (paX p)] [] (.own byK 1 (els ++ bcells (xPat p))) []
theorem tKidPat (p : Pa) (hc : PutP p) (els : List (List D)) (hs : els.length + (kidT p.kind (xPat p)).length ≤ 1000000000) : Con Tryz.prog 69 [.own byK 1 (els), .agg (paX p)] [] (.own byK 1 (els ++ bcells (kidT p.kind (xPat p)))) [] := by
  by_cases hk : p.kind = 9
  · rw [kidT, if_pos hk] at hs ⊢; simp only [List.length_append, List.length_cons, List.length_nil] at hs; have hcc := hc (els ++ [[.lit (.int .u8 40)]]) (by (try simp only [List.length_append, List.length_cons, List.length_nil, bcells_len]); omega); refine gg [38,5,22,2003,1,0,9,4,2003,4,3,0,31,5,6,0,1,7] ?_; refine u rfl rfl ((r_eqI rfl rfl rfl rfl).cast (by rw [decide_eq_true hk])) ?_; refine gg [0,9,5,2003,7,4,3,0,32,5,29] ?_; refine u rfl rfl (r_buildSlice (e := 5) (sz := 1) (zs := [.int .u8 0]) ([[.lit (.int .u8 40)]]) rfl rfl (by kernel_rfl) (by kernel_rfl) rfl rfl rfl rfl) ?_
    refine uV ?_; refine gg [20,7] ?_; refine uC (hcc) ?_; refine u rfl rfl (r_buildSlice (e := 5) (sz := 1) (zs := [.int .u8 0]) ([[.lit (.int .u8 41)]]) rfl rfl (by kernel_rfl) (by kernel_rfl) rfl rfl rfl rfl) ?_; refine uV ?_; refine gg [28,4,9,3,2003,4,3,33] ?_; exact ⟨.inl rfl, _, rfl, .of (by simp [bcells]), trivial⟩
  rw [kidT, if_neg hk] at hs ⊢; have hcc := hc els hs; refine gg [38,5,22,2003,1,0,9,4,2003,4,3,0,31,5,6,0,1,7] ?_; refine u rfl rfl ((r_eqI rfl rfl rfl rfl).cast (by rw [decide_eq_false hk])) ?_; refine gg [0,9,5,2003,7,4,3,0,8,34,5,29,20,7] ?_; refine gc (hcc) [28,0,9,1,4,33] ?_; exact ⟨.inl rfl, _, rfl, .refl _, trivial⟩

theorem tPutPat {p : Pa} (h : RPa p) : PutP p := by
  induction h with
  | any a b =>
    intro els hs; rw [xPat_1] at hs ⊢; simp only [List.length_append, List.length_cons, List.length_nil] at hs; refine gg [38,5,22,2003,1,0,9,4,2003,4,3,0,31,5,6,0,1,7,0,9,5,2003,6,4,3,0,35,5,26,1,0,9,6,2003,7,6,4,3,0,32,5,29] ?_; refine u rfl rfl (r_buildSlice (e := 5) (sz := 1) (zs := [.int .u8 0]) ([[.lit (.int .u8 95)]]) rfl rfl (by kernel_rfl) (by kernel_rfl) rfl rfl rfl rfl) ?_; refine uV ?_; refine gg [28,0,9,3,2003,4,3,33] ?_; exact ⟨.inl rfl, _, rfl, .of (by first | rfl | simp [bcells]), trivial⟩
  | name a b s hm =>
    intro els hs; rw [xPat_2] at hs ⊢; refine gg [38,5,22,2003,1,0,9,4,2003,4,3,0,31,5,6,0,1,7,0,9,5,2003,6,4,3,0,35,5,26,1,0,9,6,2003,7,6,4,3,0,8,5,26,1,0,9,6,2003,12,6,4,3,0,32,5,29,6,3,1,7] ?_; refine u rfl rfl (r_appendS (e := 5) rfl rfl (by kernel_rfl) (by kernel_rfl) (by kernel_rfl) rfl rfl (by simp only [Pa.nm]; omega)) ?_; refine gg [28,0,9,3,2003,4,3,33] ?_; exact ⟨.inl rfl, _, rfl, .of (by first | rfl | simp [bcells]), trivial⟩
  | int a b n hn =>
    intro els hs; rw [xPat_3] at hs ⊢; refine gg [38,5,22,2003,1,0,9,4,2003,4,3,0,31,5,6,0,1,7,0,9,5,2003,6,4,3,0,35,5,26,1,0,9,6,2003,7,6,4,3,0,8,5,26,1,0,9,6,2003,12,6,4,3,0,8,5,26,1,0,9,6,2003,18,6,4,3,0,32,5,29,6,4,1,7] ?_; refine uC (pNum n hn) ?_; refine uR ?_; refine gg [28,0,9,3,2003,4,3,33] ?_; exact ⟨.inl rfl, _, rfl, .of (by first | rfl | simp [bcells]), trivial⟩
  | bool a b n hn =>
    intro els hs; rw [xPat_4] at hs ⊢; have ct := tTruth els n hs; refine gg [38,5,22,2003,1,0,9,4,2003,4,3,0,31,5,6,0,1,7,0,9,5,2003,6,4,3,0,35,5,26,1,0,9,6,2003,7,6,4,3,0,8,5,26,1,0,9,6,2003,12,6,4,3,0,8,5,26,1,0,9,6,2003,18,6,4,3,0,8,5,26,1,0,9,6,2003,25,6,4,3,0,32,5,29,6,4,1,7] ?_; refine gc (ct) [28,0,9,3,2003,4,3,33] ?_; exact ⟨.inl rfl, _, rfl, .of (by first | rfl | simp [bcells]), trivial⟩
  | str a b s hs0 =>
    intro els hs; rw [xPat_5] at hs ⊢; refine gg [38,5,22,2003,1,0,9,4,2003,4,3,0,31,5,6,0,1,7,0,9,5,2003,6,4,3,0,35,5,26,1,0,9,6,2003,7,6,4,3,0,8,5,26,1,0,9,6,2003,12,6,4,3,0,8,5,26,1,0,9,6,2003,18,6,4,3,0,8,5,26,1,0,9,6,2003,25,6,4,3,0,8,5,26,1,0,9,6,2003,31,6,4,3,0,32,5,29,6,5,1,7] ?_; refine uC (tQuote s hs0) ?_; refine uR ?_; refine gg [28,0,9,3,2003,4,3,33] ?_; exact ⟨.inl rfl, _, rfl, .of (by first | rfl | simp [bcells]), trivial⟩
  | unit a b =>
    intro els hs; rw [xPat_6] at hs ⊢; simp only [List.length_append, List.length_cons, List.length_nil] at hs; refine gg [38,5,22,2003,1,0,9,4,2003,4,3,0,31,5,6,0,1,7,0,9,5,2003,6,4,3,0,35,5,26,1,0,9,6,2003,7,6,4,3,0,8,5,26,1,0,9,6,2003,12,6,4,3,0,8,5,26,1,0,9,6,2003,18,6,4,3,0,8,5,26,1,0,9,6,2003,25,6,4,3,0,8,5,26,1,0,9,6,2003,31,6,4,3,0,8,5,26,1,0,9,6,2003,38,6,4,3,0,32,5,29] ?_; refine uR ?_; refine gg [28,0,9,3,2003,4,3,33] ?_; exact ⟨.inl rfl, _, rfl, .of (by first | rfl | simp [bcells]), trivial⟩
  | nil a b =>
    intro els hs; rw [xPat_8] at hs ⊢; simp only [List.length_append, List.length_cons, List.length_nil] at hs; refine gg [38,5,22,2003,1,0,9,4,2003,4,3,0,31,5,6,0,1,7,0,9,5,2003,6,4,3,0,35,5,26,1,0,9,6,2003,7,6,4,3,0,8,5,26,1,0,9,6,2003,12,6,4,3,0,8,5,26,1,0,9,6,2003,18,6,4,3,0,8,5,26,1,0,9,6,2003,25,6,4,3,0,8,5,26,1,0,9,6,2003,31,6,4,3,0,8,5,26,1,0,9,6,2003,38,6,4,3,0,8,5,26,1,0,9,6,2003,42,6,4,3,0,32,5,29] ?_; refine uR ?_; refine gg [28,0,9,3,2003,4,3,33] ?_; exact ⟨.inl rfl, _, rfl, .of (by first | rfl | simp [bcells]), trivial⟩
  | pair a b x y hx hy ihx ihy =>
    intro els hs; rw [xPat_7] at hs ⊢; simp only [List.length_append, List.length_cons, List.length_nil] at hs; have cx := ihx (els ++ [[.lit (.int .u8 40)]]) (by (try simp only [List.length_append, List.length_cons, List.length_nil, bcells_len]); omega); have cy := ihy (els ++ [[.lit (.int .u8 40)]] ++ bcells (xPat x) ++ bcells [44, 32]) (by (try simp only [List.length_append, List.length_cons, List.length_nil, bcells_len]); omega)
    refine gg [38,5,22,2003,1,0,9,4,2003,4,3,0,31,5,6,0,1,7,0,9,5,2003,6,4,3,0,35,5,26,1,0,9,6,2003,7,6,4,3,0,8,5,26,1,0,9,6,2003,12,6,4,3,0,8,5,26,1,0,9,6,2003,18,6,4,3,0,8,5,26,1,0,9,6,2003,25,6,4,3,0,8,5,26,1,0,9,6,2003,31,6,4,3,0,8,5,26,1,0,9,6,2003,38,6,4,3,0,8,5,26,1,0,9,6,2003,42,6,4,3,0,8,5,26,1,0,9,5,2003,46,4,3,0,32,5,29] ?_; refine u rfl rfl (r_buildSlice (e := 5) (sz := 1) (zs := [.int .u8 0]) ([[.lit (.int .u8 40)]]) rfl rfl (by kernel_rfl) (by kernel_rfl) rfl rfl rfl rfl) ?_; refine uV ?_; refine gg [6,6,1,7] ?_; refine u rfl rfl (r_indexAddr (e := 40) (sz := 7) rfl rfl (by kernel_rfl) rfl rfl (Int.le_refl 0) (pas_at3 (l := [x, y]) (k := 0) rfl)) ?_; refine gg [21,7] ?_; refine uC (cx) ?_; refine uR ?_; refine gg [28,4,9,4,2003,4,3,0,5,29,6,6,1,7] ?_; refine u rfl rfl (r_indexAddr (e := 40) (sz := 7) rfl rfl (by kernel_rfl) rfl rfl (by decide) (pas_at3 (l := [x, y]) (k := 1) rfl)) ?_
    refine gg [21,7] ?_; refine uC (cy) ?_; refine u rfl rfl (r_buildSlice (e := 5) (sz := 1) (zs := [.int .u8 0]) ([[.lit (.int .u8 41)]]) rfl rfl (by kernel_rfl) (by kernel_rfl) rfl rfl rfl rfl) ?_; refine uV ?_; refine gg [28,0,9,3,2003,4,3,33] ?_; exact ⟨.inl rfl, _, rfl, .of (by first | rfl | simp [bcells]), trivial⟩
  | cons a b x y hx hy ihx ihy =>
    intro els hs; rw [xPat_9] at hs ⊢; simp only [List.length_append, List.length_cons, List.length_nil] at hs; have cx := tKidPat x ihx els (by (try simp only [List.length_append, List.length_cons, List.length_nil, bcells_len]); omega); have cy := tKidPat y ihy (els ++ bcells (kidT x.kind (xPat x)) ++ bcells [32, 58, 58, 32]) (by (try simp only [List.length_append, List.length_cons, List.length_nil, bcells_len]); omega)
    refine gg [38,5,22,2003,1,0,9,4,2003,4,3,0,31,5,6,0,1,7,0,9,5,2003,6,4,3,0,35,5,26,1,0,9,6,2003,7,6,4,3,0,8,5,26,1,0,9,6,2003,12,6,4,3,0,8,5,26,1,0,9,6,2003,18,6,4,3,0,8,5,26,1,0,9,6,2003,25,6,4,3,0,8,5,26,1,0,9,6,2003,31,6,4,3,0,8,5,26,1,0,9,6,2003,38,6,4,3,0,8,5,26,1,0,9,6,2003,42,6,4,3,0,8,5,26,1,0,9,5,2003,46,4,3,0,8,34,5,29,6,6,1,7] ?_; refine u rfl rfl (r_indexAddr (e := 40) (sz := 7) rfl rfl (by kernel_rfl) rfl rfl (Int.le_refl 0) (pas_at3 (l := [x, y]) (k := 0) rfl)) ?_; refine gg [21,7] ?_; refine uC (cx) ?_; refine uR ?_; refine gg [6,6,1,7] ?_; refine u rfl rfl (r_indexAddr (e := 40) (sz := 7) rfl rfl (by kernel_rfl) rfl rfl (by decide) (pas_at3 (l := [x, y]) (k := 1) rfl)) ?_; refine gg [21,7] ?_; refine gc (cy) [28,4,9,1,4,33] ?_; exact ⟨.inl rfl, _, rfl, .of (by first | rfl | simp [bcells]), trivial⟩

end Go.Proofs.YtlagglkpbnbmeaaGreatDoor

/- The program's texts of expressions. -/
namespace Go.Proofs.YtlagglkpbnbmeaaGreatDoor
open Go Go.RowKit
set_option maxRecDepth 100000
set_option maxHeartbeats 4000000
set_option linter.unusedVariables false
set_option linter.unusedSimpArgs false

theorem tTyp (t : Ty) (h : ClosedTy t) (hs : t.size ≤ 100000) : Con Tryz.prog 102 [.agg (tyE t)] [] (.c (.lit (str (mTxt t)))) [] := by
  have hc := kText t hs; rw [right_right h.right] at hc; refine gg [38,5,22,2001,1,0,9,3,2001,2,1,5,20,3] ?_; refine gc (hc) [2,14,14,1,1,0,9,2,3,2,5,2,1,0,9,1,2,33] ?_; exact ⟨.inl rfl, _, rfl, .refl _, trivial⟩

theorem closed_kind {t : Ty} (h : ClosedTy t) : t.kind ≠ 0 := by
  cases h <;> simp [Ty.kind, Ty.leaf, Ty.one, Ty.two]
theorem tSort (els : List (List D)) (t : Ty) (h : Ann t) (ht : t.size ≤ 100000) (hs : els.length + (sortT t).length ≤ 1000000000) : Con Tryz.prog 61 [.own byK 1 (els), .agg (tyE t)] [] (.own byK 1 (els ++ bcells (sortT t))) [] := by
  rcases h with rfl | h
  · have hk : noTy.kind = 0 := rfl; have he : sortT noTy = [] := rfl; rw [he] at hs ⊢; refine gg [38,5,22,2003,1,0,9,4,2003,4,3,0,31,5,6,0,1,7] ?_; refine u rfl rfl ((r_eqI rfl rfl rfl rfl).cast (by rw [decide_eq_true hk])) ?_; refine gg [0,9,5,2003,7,4,3,0,32,5,29,28,0,9,3,2003,4,3,33] ?_; exact ⟨.inl rfl, _, rfl, .of (by simp [bcells]), trivial⟩
  have hk := closed_kind h; have hc := tTyp t h ht; rw [sortT, if_neg hk] at hs ⊢; simp only [List.length_append, List.length_cons, List.length_nil] at hs; refine gg [38,5,22,2003,1,0,9,4,2003,4,3,0,31,5,6,0,1,7] ?_; refine u rfl rfl ((r_eqI rfl rfl rfl rfl).cast (by rw [decide_eq_false hk])) ?_; refine gg [0,9,5,2003,7,4,3,0,8,34,5,29] ?_; refine uR ?_; refine gg [20,3] ?_; refine uC (hc) ?_; refine uR ?_; refine gg [28,4,9,1,4,33] ?_; exact ⟨.inl rfl, _, rfl, .of (by first | rfl | simp [bcells]), trivial⟩

theorem tParam (els : List (List D)) (s : List UInt8) (t : Ty) (h : Ann t) (ht : t.size ≤ 100000) (hs : els.length + (paramT s t).length ≤ 1000000000) : Con Tryz.prog 103 [.own byK 1 (els), .c (.lit (str s)), .agg (tyE t)] [] (.own byK 1 (els ++ bcells (paramT s t))) [] := by
  rcases h with rfl | h
  · have hk : noTy.kind = 0 := rfl; have he : paramT s noTy = s := rfl; rw [he] at hs ⊢; refine gg [38,5,22,2005,1,0,9,5,2005,6,5,1,0,31,5,6,0,1,7] ?_; refine u rfl rfl ((r_eqI rfl rfl rfl rfl).cast (by rw [decide_eq_true hk])) ?_; refine gg [0,9,6,2005,9,6,5,1,0,32,5,29,2] ?_; refine uR ?_; refine gg [28,0,9,4,2005,6,5,1,33] ?_; exact ⟨.inl rfl, _, rfl, .refl _, trivial⟩
  have hk := closed_kind h; have hc := tTyp t h ht; rw [paramT, if_neg hk] at hs ⊢; simp only [List.length_append, List.length_cons, List.length_nil] at hs; refine gg [38,5,22,2005,1,0,9,5,2005,6,5,1,0,31,5,6,0,1,7] ?_; refine u rfl rfl ((r_eqI rfl rfl rfl rfl).cast (by rw [decide_eq_false hk])) ?_; refine gg [0,9,6,2005,9,6,5,1,0,8,34,5,29] ?_; refine u rfl rfl (r_buildSlice (e := 5) (sz := 1) (zs := [.int .u8 0]) ([[.lit (.int .u8 40)]]) rfl rfl (by kernel_rfl) (by kernel_rfl) rfl rfl rfl rfl) ?_; refine uV ?_; refine gg [2] ?_; refine uR ?_; refine uR ?_; refine gg [28,0,9,4,2005,6,5,0,5,29,20,3] ?_; refine uC (hc) ?_; refine uR ?_; refine u rfl rfl (r_buildSlice (e := 5) (sz := 1) (zs := [.int .u8 0]) ([[.lit (.int .u8 41)]]) rfl rfl (by kernel_rfl) (by kernel_rfl) rfl rfl rfl rfl) ?_; refine uV ?_; refine gg [28,0,9,1,6,33] ?_; exact ⟨.inl rfl, _, rfl, .of (by first | rfl | simp [bcells]), trivial⟩

theorem tSign (op : Int) : Con Tryz.prog 60 [.c (.lit (.int .i64 op))] [] (.c (.lit (str (signT op)))) [] := by
  refine gg [38,5,1,0,9,2,2,0,31,5,2,0,9,2,3,2,35,5] ?_; refine bE ?_ ?_
  · intro h5; refine gg [1,0,9,3,4,3,2,32,5,1,0,9,1,2,33] ?_; refine ⟨.inl rfl, _, rfl, .ofS ?_, trivial⟩; rw [signT, if_pos h5]
  intro h5; refine gg [1,0,9,3,4,3,2,8,5] ?_; refine bE ?_ ?_
  · intro h7; refine gg [1,0,9,3,6,3,2,32,5,1,0,9,1,2,33] ?_; refine ⟨.inl rfl, _, rfl, .ofS ?_, trivial⟩; rw [signT, if_neg h5, if_pos h7]
  intro h7; refine gg [1,0,9,3,6,3,2,8,5] ?_; refine bE ?_ ?_
  · intro h9; refine gg [1,0,9,3,8,3,2,32,5,1,0,9,1,2,33] ?_; refine ⟨.inl rfl, _, rfl, .ofS ?_, trivial⟩; rw [signT, if_neg h5, if_neg h7, if_pos h9]
  intro h9; refine gg [1,0,9,3,8,3,2,8,5] ?_; refine bE ?_ ?_
  · intro h11; refine gg [1,0,9,3,10,3,2,32,5,1,0,9,1,2,33] ?_; refine ⟨.inl rfl, _, rfl, .ofS ?_, trivial⟩; rw [signT, if_neg h5, if_neg h7, if_neg h9, if_pos h11]
  intro h11; refine gg [1,0,9,3,10,3,2,8,5] ?_; refine bE ?_ ?_
  · intro h13; refine gg [1,0,9,3,12,3,2,32,5,1,0,9,1,2,33] ?_; refine ⟨.inl rfl, _, rfl, .ofS ?_, trivial⟩; rw [signT, if_neg h5, if_neg h7, if_neg h9, if_neg h11, if_pos h13]
  intro h13; refine gg [1,0,9,3,12,3,2,8,5] ?_; refine bE ?_ ?_
  · intro h15; refine gg [1,0,9,2,14,2,32,5,1,0,9,1,2,33] ?_; refine ⟨.inl rfl, _, rfl, .ofS ?_, trivial⟩; rw [signT, if_neg h5, if_neg h7, if_neg h9, if_neg h11, if_neg h13, if_pos h15]
  intro h15; refine gg [1,0,9,2,14,2,8,34,5,1,0,9,1,2,33] ?_; refine ⟨.inl rfl, _, rfl, .ofS ?_, trivial⟩; rw [signT, if_neg h5, if_neg h7, if_neg h9, if_neg h11, if_neg h13, if_neg h15]

abbrev PutE (e : Ex) : Prop := ∀ els : List (List D), els.length + (xEx e).length ≤ 1000000000 → Con Tryz.prog 27 [.own byK 1 (els), .agg (exX e)] [] (.own byK 1 (els ++ bcells (xEx e))) []
theorem tQ (e : Ex) (hc : PutE e) (els : List (List D)) (hs : els.length + (qT e.kind (xEx e)).length ≤ 1000000000) : Con Tryz.prog 59 [.own byK 1 (els), .agg (exX e)] [] (.own byK 1 (els ++ bcells (qT e.kind (xEx e)))) [] := by
  by_cases hk : e.kind = 1 ∨ e.kind = 2 ∨ e.kind = 3 ∨ e.kind = 4 ∨ e.kind = 5 ∨ e.kind = 6 ∨ e.kind = 7 ∨ e.kind = 15
  · rw [qT, if_pos hk] at hs ⊢; have hcc := hc els hs
    rcases hk with hk | hk | hk | hk | hk | hk | hk | hk
    · refine gg [38,5,22,2003,1,0,9,4,2003,4,3,0,31,5,6,0,1,7,0,9,5,2003,6,4,3,0,35,31,5] ?_; refine u rfl rfl ((r_eqI rfl rfl rfl rfl).cast (by rw [decide_eq_true hk])) ?_; refine gg [1,0,9,6,2003,7,6,4,3,0,32,34,32,5,29,20,16] ?_; refine gc (hcc) [28,0,9,3,2003,4,3,33] ?_; exact ⟨.inl rfl, _, rfl, .refl _, trivial⟩
    · refine gg [38,5,22,2003,1,0,9,4,2003,4,3,0,31,5,6,0,1,7,0,9,5,2003,6,4,3,0,35,31,5] ?_; refine u rfl rfl ((r_eqI rfl rfl rfl rfl).cast (by rw [decide_eq_false (by omega)])) ?_; refine gg [1,0,9,6,2003,7,6,4,3,0,8,5] ?_; refine u rfl rfl ((r_eqI rfl rfl rfl rfl).cast (by rw [decide_eq_true hk])) ?_; refine gg [1,0,9,6,2003,7,6,4,3,0,32,34,32,5,29,20,16] ?_; refine gc (hcc) [28,0,9,3,2003,4,3,33] ?_; exact ⟨.inl rfl, _, rfl, .refl _, trivial⟩
    · refine gg [38,5,22,2003,1,0,9,4,2003,4,3,0,31,5,6,0,1,7,0,9,5,2003,6,4,3,0,35,31,5] ?_; refine u rfl rfl ((r_eqI rfl rfl rfl rfl).cast (by rw [decide_eq_false (by omega)])) ?_; refine gg [1,0,9,6,2003,7,6,4,3,0,8,5] ?_; refine u rfl rfl ((r_eqI rfl rfl rfl rfl).cast (by rw [decide_eq_false (by omega)])) ?_; refine gg [1,0,9,6,2003,7,6,4,3,0,8,5] ?_; refine u rfl rfl ((r_eqI rfl rfl rfl rfl).cast (by rw [decide_eq_true hk])) ?_; refine gg [1,0,9,6,2003,7,6,4,3,0,32,34,32,5,29,20,16] ?_; refine gc (hcc) [28,0,9,3,2003,4,3,33] ?_; exact ⟨.inl rfl, _, rfl, .refl _, trivial⟩
    · refine gg [38,5,22,2003,1,0,9,4,2003,4,3,0,31,5,6,0,1,7,0,9,5,2003,6,4,3,0,35,31,5] ?_; refine u rfl rfl ((r_eqI rfl rfl rfl rfl).cast (by rw [decide_eq_false (by omega)])) ?_; refine gg [1,0,9,6,2003,7,6,4,3,0,8,5] ?_; refine u rfl rfl ((r_eqI rfl rfl rfl rfl).cast (by rw [decide_eq_false (by omega)])) ?_; refine gg [1,0,9,6,2003,7,6,4,3,0,8,5] ?_; refine u rfl rfl ((r_eqI rfl rfl rfl rfl).cast (by rw [decide_eq_false (by omega)])) ?_; refine gg [1,0,9,6,2003,7,6,4,3,0,8,5] ?_; refine u rfl rfl ((r_eqI rfl rfl rfl rfl).cast (by rw [decide_eq_true hk])) ?_; refine gg [1,0,9,6,2003,7,6,4,3,0,32,34,32,5,29,20,16] ?_; refine gc (hcc) [28,0,9,3,2003,4,3,33] ?_; exact ⟨.inl rfl, _, rfl, .refl _, trivial⟩
    · refine gg [38,5,22,2003,1,0,9,4,2003,4,3,0,31,5,6,0,1,7,0,9,5,2003,6,4,3,0,35,31,5] ?_; refine u rfl rfl ((r_eqI rfl rfl rfl rfl).cast (by rw [decide_eq_false (by omega)])) ?_; refine gg [1,0,9,6,2003,7,6,4,3,0,8,5] ?_; refine u rfl rfl ((r_eqI rfl rfl rfl rfl).cast (by rw [decide_eq_false (by omega)])) ?_; refine gg [1,0,9,6,2003,7,6,4,3,0,8,5] ?_; refine u rfl rfl ((r_eqI rfl rfl rfl rfl).cast (by rw [decide_eq_false (by omega)])) ?_; refine gg [1,0,9,6,2003,7,6,4,3,0,8,5] ?_; refine u rfl rfl ((r_eqI rfl rfl rfl rfl).cast (by rw [decide_eq_false (by omega)])) ?_; refine gg [1,0,9,6,2003,7,6,4,3,0,8,5] ?_; refine u rfl rfl ((r_eqI rfl rfl rfl rfl).cast (by rw [decide_eq_true hk])) ?_; refine gg [1,0,9,6,2003,7,6,4,3,0,32,34,32,5,29,20,16] ?_; refine gc (hcc) [28,0,9,3,2003,4,3,33] ?_; exact ⟨.inl rfl, _, rfl, .refl _, trivial⟩
    · refine gg [38,5,22,2003,1,0,9,4,2003,4,3,0,31,5,6,0,1,7,0,9,5,2003,6,4,3,0,35,31,5] ?_; refine u rfl rfl ((r_eqI rfl rfl rfl rfl).cast (by rw [decide_eq_false (by omega)])) ?_; refine gg [1,0,9,6,2003,7,6,4,3,0,8,5] ?_; refine u rfl rfl ((r_eqI rfl rfl rfl rfl).cast (by rw [decide_eq_false (by omega)])) ?_; refine gg [1,0,9,6,2003,7,6,4,3,0,8,5] ?_; refine u rfl rfl ((r_eqI rfl rfl rfl rfl).cast (by rw [decide_eq_false (by omega)])) ?_; refine gg [1,0,9,6,2003,7,6,4,3,0,8,5] ?_; refine u rfl rfl ((r_eqI rfl rfl rfl rfl).cast (by rw [decide_eq_false (by omega)])) ?_; refine gg [1,0,9,6,2003,7,6,4,3,0,8,5] ?_; refine u rfl rfl ((r_eqI rfl rfl rfl rfl).cast (by rw [decide_eq_false (by omega)])) ?_; refine gg [1,0,9,6,2003,7,6,4,3,0,8,5] ?_; refine u rfl rfl ((r_eqI rfl rfl rfl rfl).cast (by rw [decide_eq_true hk])) ?_; refine gg [1,0,9,6,2003,7,6,4,3,0,32,34,32,5,29,20,16] ?_; refine gc (hcc) [28,0,9,3,2003,4,3,33] ?_
      exact ⟨.inl rfl, _, rfl, .refl _, trivial⟩
    · refine gg [38,5,22,2003,1,0,9,4,2003,4,3,0,31,5,6,0,1,7,0,9,5,2003,6,4,3,0,35,31,5] ?_; refine u rfl rfl ((r_eqI rfl rfl rfl rfl).cast (by rw [decide_eq_false (by omega)])) ?_; refine gg [1,0,9,6,2003,7,6,4,3,0,8,5] ?_; refine u rfl rfl ((r_eqI rfl rfl rfl rfl).cast (by rw [decide_eq_false (by omega)])) ?_; refine gg [1,0,9,6,2003,7,6,4,3,0,8,5] ?_; refine u rfl rfl ((r_eqI rfl rfl rfl rfl).cast (by rw [decide_eq_false (by omega)])) ?_; refine gg [1,0,9,6,2003,7,6,4,3,0,8,5] ?_; refine u rfl rfl ((r_eqI rfl rfl rfl rfl).cast (by rw [decide_eq_false (by omega)])) ?_; refine gg [1,0,9,6,2003,7,6,4,3,0,8,5] ?_; refine u rfl rfl ((r_eqI rfl rfl rfl rfl).cast (by rw [decide_eq_false (by omega)])) ?_; refine gg [1,0,9,6,2003,7,6,4,3,0,8,5] ?_; refine u rfl rfl ((r_eqI rfl rfl rfl rfl).cast (by rw [decide_eq_false (by omega)])) ?_; refine gg [1,0,9,6,2003,7,6,4,3,0,8,5] ?_; refine u rfl rfl ((r_eqI rfl rfl rfl rfl).cast (by rw [decide_eq_true hk])) ?_
      refine gg [1,0,9,6,2003,7,6,4,3,0,32,34,32,5,29,20,16] ?_; refine gc (hcc) [28,0,9,3,2003,4,3,33] ?_; exact ⟨.inl rfl, _, rfl, .refl _, trivial⟩
    refine gg [38,5,22,2003,1,0,9,4,2003,4,3,0,31,5,6,0,1,7,0,9,5,2003,6,4,3,0,35,31,5] ?_; refine u rfl rfl ((r_eqI rfl rfl rfl rfl).cast (by rw [decide_eq_false (by omega)])) ?_; refine gg [1,0,9,6,2003,7,6,4,3,0,8,5] ?_; refine u rfl rfl ((r_eqI rfl rfl rfl rfl).cast (by rw [decide_eq_false (by omega)])) ?_; refine gg [1,0,9,6,2003,7,6,4,3,0,8,5] ?_; refine u rfl rfl ((r_eqI rfl rfl rfl rfl).cast (by rw [decide_eq_false (by omega)])) ?_; refine gg [1,0,9,6,2003,7,6,4,3,0,8,5] ?_; refine u rfl rfl ((r_eqI rfl rfl rfl rfl).cast (by rw [decide_eq_false (by omega)])) ?_; refine gg [1,0,9,6,2003,7,6,4,3,0,8,5] ?_; refine u rfl rfl ((r_eqI rfl rfl rfl rfl).cast (by rw [decide_eq_false (by omega)])) ?_; refine gg [1,0,9,6,2003,7,6,4,3,0,8,5] ?_; refine u rfl rfl ((r_eqI rfl rfl rfl rfl).cast (by rw [decide_eq_false (by omega)])) ?_; refine gg [1,0,9,6,2003,7,6,4,3,0,8,5] ?_; refine u rfl rfl ((r_eqI rfl rfl rfl rfl).cast (by rw [decide_eq_false (by omega)])) ?_
    refine gg [1,0,9,6,2003,7,6,4,3,0,8,37] ?_; refine u rfl rfl ((r_eqI rfl rfl rfl rfl).cast (by rw [decide_eq_true hk])) ?_; refine gg [1,0,9,5,2003,7,4,3,0,32,5,29,20,16] ?_; refine gc (hcc) [28,0,9,3,2003,4,3,33] ?_; exact ⟨.inl rfl, _, rfl, .refl _, trivial⟩
  rw [qT, if_neg hk] at hs ⊢; simp only [List.length_append, List.length_cons, List.length_nil] at hs; have hcc := hc (els ++ [[.lit (.int .u8 40)]]) (by (try simp only [List.length_append, List.length_cons, List.length_nil, bcells_len, Ex.nm, Ex.arg]); omega); refine gg [38,5,22,2003,1,0,9,4,2003,4,3,0,31,5,6,0,1,7,0,9,5,2003,6,4,3,0,35,31,5] ?_; refine u rfl rfl ((r_eqI rfl rfl rfl rfl).cast (by rw [decide_eq_false (by omega)])) ?_; refine gg [1,0,9,6,2003,7,6,4,3,0,8,5] ?_; refine u rfl rfl ((r_eqI rfl rfl rfl rfl).cast (by rw [decide_eq_false (by omega)])) ?_
  refine gg [1,0,9,6,2003,7,6,4,3,0,8,5] ?_; refine u rfl rfl ((r_eqI rfl rfl rfl rfl).cast (by rw [decide_eq_false (by omega)])) ?_; refine gg [1,0,9,6,2003,7,6,4,3,0,8,5] ?_; refine u rfl rfl ((r_eqI rfl rfl rfl rfl).cast (by rw [decide_eq_false (by omega)])) ?_; refine gg [1,0,9,6,2003,7,6,4,3,0,8,5] ?_; refine u rfl rfl ((r_eqI rfl rfl rfl rfl).cast (by rw [decide_eq_false (by omega)])) ?_; refine gg [1,0,9,6,2003,7,6,4,3,0,8,5] ?_; refine u rfl rfl ((r_eqI rfl rfl rfl rfl).cast (by rw [decide_eq_false (by omega)])) ?_; refine gg [1,0,9,6,2003,7,6,4,3,0,8,5] ?_; refine u rfl rfl ((r_eqI rfl rfl rfl rfl).cast (by rw [decide_eq_false (by omega)])) ?_; refine gg [1,0,9,6,2003,7,6,4,3,0,8,37] ?_; refine u rfl rfl ((r_eqI rfl rfl rfl rfl).cast (by rw [decide_eq_false (by omega)])) ?_; refine gg [1,0,9,5,2003,7,4,3,0,8,34,5,29] ?_; refine u rfl rfl (r_buildSlice (e := 5) (sz := 1) (zs := [.int .u8 0]) ([[.lit (.int .u8 40)]]) rfl rfl (by kernel_rfl) (by kernel_rfl) rfl rfl rfl rfl) ?_
  refine uV ?_; refine gg [20,16] ?_; refine uC (hcc) ?_; refine u rfl rfl (r_buildSlice (e := 5) (sz := 1) (zs := [.int .u8 0]) ([[.lit (.int .u8 41)]]) rfl rfl (by kernel_rfl) (by kernel_rfl) rfl rfl rfl rfl) ?_; refine uV ?_; refine gg [28,4,9,1,4,33] ?_; exact ⟨.inl rfl, _, rfl, .of (by first | rfl | simp [bcells]), trivial⟩

theorem tBody (k a b : Int) (nm arg : List UInt8) (n : Int) (s : List UInt8) (op : Int) (A B : Ty) (x y : Ex) (hx : PutE x) (hy : PutE y) (els : List (List D)) (hs : els.length + (xEx x).length + (xEx y).length + 7 ≤ 1000000000) : Con Tryz.prog 104 [.own byK 1 (els), .agg (exX (.mk k a b nm arg n s op A B [] [x, y]))] [] (.own byK 1 (els ++ bcells [32, 61, 32] ++ bcells (xEx x) ++ bcells [32, 105, 110, 32] ++ bcells (xEx y))) [] := by
  have cx := hx (els ++ bcells [32, 61, 32]) (by (try simp only [List.length_append, List.length_cons, List.length_nil, bcells_len, Ex.nm, Ex.arg]); omega); have cy := hy (els ++ bcells [32, 61, 32] ++ bcells (xEx x) ++ bcells [32, 105, 110, 32]) (by (try simp only [List.length_append, List.length_cons, List.length_nil, bcells_len, Ex.nm, Ex.arg]); omega)
  refine gg [38,5,22,2003,1,0,9,4,2003,4,3,0,5,29] ?_; refine uR ?_; refine gg [6,15,1,7] ?_; refine u rfl rfl (r_indexAddr (e := 30) (sz := 16) rfl rfl (by kernel_rfl) rfl rfl (Int.le_refl 0) (exs_at3 (l := [x, y]) (k := 0) rfl)) ?_; refine gg [21,16] ?_; refine gc (cx) [28,4,9,4,2003,4,3,0,5,29] ?_; refine uR ?_; refine gg [6,15,1,7] ?_; refine u rfl rfl (r_indexAddr (e := 30) (sz := 16) rfl rfl (by kernel_rfl) rfl rfl (by decide) (exs_at3 (l := [x, y]) (k := 1) rfl)) ?_; refine gg [21,16] ?_; refine gc (cy) [28,4,9,1,4,33] ?_; exact ⟨.inl rfl, _, rfl, .refl _, trivial⟩

theorem xEx_1 (a b : Int) (s : List UInt8) : xEx (.mk 1 a b s [] 0 [] 0 noTy noTy [] []) = s := by rw [xEx]; rfl
theorem xEx_2 (a b : Int) (n : Int) : xEx (.mk 2 a b [] [] n [] 0 noTy noTy [] []) = mNum n := by rw [xEx]; rfl
theorem xEx_3 (a b : Int) (n : Int) : xEx (.mk 3 a b [] [] n [] 0 noTy noTy [] []) = truthT n := by rw [xEx]; rfl
theorem xEx_4 (a b : Int) (s : List UInt8) : xEx (.mk 4 a b [] [] 0 s 0 noTy noTy [] []) = mLong s := by rw [xEx]; rfl
theorem xEx_5 (a b : Int) : xEx (.mk 5 a b [] [] 0 [] 0 noTy noTy [] []) = [40, 41] := by rw [xEx]; rfl
theorem xEx_7 (a b : Int) : xEx (.mk 7 a b [] [] 0 [] 0 noTy noTy [] []) = [91, 93] := by rw [xEx]; rfl
theorem xEx_6 (a b : Int) (x y : Ex) : xEx (.mk 6 a b [] [] 0 [] 0 noTy noTy [] [x, y]) = 40 :: (xEx x ++ [44, 32] ++ xEx y ++ [41]) := by rw [xEx, xExs, xExs, xExs]; rfl
theorem xEx_8 (a b : Int) (x y : Ex) : xEx (.mk 8 a b [] [] 0 [] 0 noTy noTy [] [x, y]) = qT x.kind (xEx x) ++ [32, 58, 58, 32] ++ qT y.kind (xEx y) := by rw [xEx, xExs, xExs, xExs]; rfl
theorem xEx_10 (a b : Int) (x y : Ex) : xEx (.mk 10 a b [] [] 0 [] 0 noTy noTy [] [x, y]) = qT x.kind (xEx x) ++ [32] ++ qT y.kind (xEx y) := by rw [xEx, xExs, xExs, xExs]; rfl
theorem xEx_16 (a b : Int) (op : Int) (x y : Ex) : xEx (.mk 16 a b [] [] 0 [] op noTy noTy [] [x, y]) = qT x.kind (xEx x) ++ signT op ++ qT y.kind (xEx y) := by rw [xEx, xExs, xExs, xExs]; rfl
theorem xEx_15 (a b : Int) (A : Ty) (x : Ex) : xEx (.mk 15 a b [] [] 0 [] 0 A noTy [] [x]) = 40 :: (xEx x ++ sortT A ++ [41]) := by rw [xEx, xExs, xExs]; rfl
theorem xEx_9 (a b : Int) (s : List UInt8) (A : Ty) (x : Ex) : xEx (.mk 9 a b s [] 0 [] 0 A noTy [] [x]) = [102, 117, 110, 32] ++ paramT s A ++ [32, 45, 62, 32] ++ xEx x := by rw [xEx, xExs, xExs]; rfl
theorem xEx_11 (a b : Int) (s : List UInt8) (A : Ty) (x y : Ex) : xEx (.mk 11 a b s [] 0 [] 0 A noTy [] [x, y]) = [108, 101, 116, 32] ++ s ++ sortT A ++ [32, 61, 32] ++ xEx x ++ [32, 105, 110, 32] ++ xEx y := by rw [xEx, xExs, xExs, xExs]; rfl
theorem xEx_12 (a b : Int) (s g : List UInt8) (A B : Ty) (x y : Ex) : xEx (.mk 12 a b s g 0 [] 0 A B [] [x, y]) = [108, 101, 116, 32, 114, 101, 99, 32] ++ s ++ [32] ++ paramT g A ++ sortT B ++ [32, 61, 32] ++ xEx x ++ [32, 105, 110, 32] ++ xEx y := by rw [xEx, xExs, xExs, xExs]; rfl
theorem xEx_13 (a b : Int) (x y z : Ex) : xEx (.mk 13 a b [] [] 0 [] 0 noTy noTy [] [x, y, z]) = [105, 102, 32] ++ xEx x ++ [32, 116, 104, 101, 110, 32] ++ xEx y ++ [32, 101, 108, 115, 101, 32] ++ xEx z := by rw [xEx, xExs, xExs, xExs, xExs]; rfl
def aL : Bool → List (Pa × Ex) → List UInt8
  | _, [] => []
  | f, q :: r => (if f then [] else [32, 124, 32]) ++ xPat q.1 ++ [32, 45, 62, 32] ++ xEx q.2 ++ aL false r
theorem arms_aL : ∀ (f : Bool) (l : List (Pa × Ex)), armsT f (l.map (·.1)) (xExs (l.map (·.2))) = aL f l
  | _, [] => rfl
  | f, q :: r => by
    rw [List.map_cons, List.map_cons, xExs, armsT, aL]; dsimp only [List.headD, List.tail]; rw [arms_aL false r]
theorem xEx_14 (a b : Int) (x : Ex) (l : List (Pa × Ex)) : xEx (.mk 14 a b [] [] 0 [] 0 noTy noTy (l.map (·.1)) (x :: l.map (·.2))) = [109, 97, 116, 99, 104, 32] ++ xEx x ++ [32, 119, 105, 116, 104, 32] ++ aL true l ++ [32, 101, 110, 100] := by
  rw [xEx, xExs, ← arms_aL]; rfl
theorem aL_snoc : ∀ (f : Bool) (l : List (Pa × Ex)) (q : Pa × Ex), aL f (l ++ [q]) = aL f l ++ ((if f && l.isEmpty then [] else [32, 124, 32]) ++ xPat q.1 ++ [32, 45, 62, 32] ++ xEx q.2)
  | f, [], q => by simp [aL]
  | f, p :: r, q => by
    rw [List.cons_append, aL, aL_snoc false r q, aL]
    simp
theorem aL_take : ∀ (f : Bool) (l : List (Pa × Ex)) (i : Nat), (aL f (l.take i)).length ≤ (aL f l).length
  | _, [], i => by simp
  | f, q :: r, 0 => by simp [aL]
  | f, q :: r, i + 1 => by
    have := aL_take false r i; rw [List.take_succ_cons, aL, aL]; simp only [List.length_append]
    omega
theorem aL_len : ∀ (f : Bool) (l : List (Pa × Ex)), l.length ≤ (aL f l).length
  | _, [] => Nat.le_refl _
  | f, q :: r => by
    have := aL_len false r; rw [aL]; simp only [List.length_append, List.length_cons, List.length_nil]
    omega
def rowM (b : List (List D)) (l : List (Pa × Ex)) : Nat → List (List D)
  | 0 => b
  | i + 1 => b ++ bcells (aL true (l.take (i + 1)))
theorem rowM_eq (b : List (List D)) (l : List (Pa × Ex)) (i : Nat) : rowM b l i = b ++ bcells (aL true (l.take i)) := by
  cases i with
  | zero => simp [rowM, aL, bcells]
  | succ i => rfl
theorem take_snoc {l : List (Pa × Ex)} {i : Nat} {q : Pa × Ex} (h : l[i]? = some q) : l.take (i + 1) = l.take i ++ [q] := by
  rw [List.take_add_one, h]; rfl
theorem rowM_first {b : List (List D)} {l : List (Pa × Ex)} {i : Nat} {q : Pa × Ex} (h : l[i]? = some q) (hi : i = 0) : rowM b l i ++ bcells (xPat q.1) ++ bcells [32, 45, 62, 32] ++ bcells (xEx q.2) = rowM b l (i + 1) := by
  subst hi; rw [rowM_eq, rowM_eq, take_snoc h, aL_snoc]
  simp [bcells, aL]
theorem rowM_next {b : List (List D)} {l : List (Pa × Ex)} {i : Nat} {q : Pa × Ex} (h : l[i]? = some q) (hi : 0 < i) : rowM b l i ++ bcells [32, 124, 32] ++ bcells (xPat q.1) ++ bcells [32, 45, 62, 32] ++ bcells (xEx q.2) = rowM b l (i + 1) := by
  have hn : (l.take i).isEmpty = false := by
    obtain ⟨hl, _⟩ := List.getElem?_eq_some_iff.1 h
    cases ht : l.take i with
    | nil => have := congrArg List.length ht; rw [List.length_take, List.length_nil] at this; omega
    | cons _ _ => rfl
  rw [rowM_eq, rowM_eq, take_snoc h, aL_snoc, hn]
  simp [bcells]
theorem rowM_len {b : List (List D)} {l : List (Pa × Ex)} {i : Nat} : (rowM b l i).length = b.length + (aL true (l.take i)).length := by
  rw [rowM_eq, List.length_append, bcells_len]

theorem exA {n : Nat} {e : Ex} (h : ExK n e) : e.A.size ≤ n ∧ e.B.size ≤ n ∧ ∀ x, x ∈ e.kids → ExK n x := by
  cases h with
  | mk _ _ _ hA hB _ _ _ hk => exact ⟨hA, hB, hk⟩
theorem tPutE {e : Ex} (h : REx e) : ExK 100000 e → PutE e := by
  induction h with
  | name a b s hm =>
    intro hK els hs; rw [xEx_1] at hs ⊢; refine gg [38,5,22,2003,1,0,9,4,2003,4,3,0,31,5,6,0,1,7,0,9,5,2003,6,4,3,0,35,5,26,1,0,9,6,2003,7,6,4,3,0,32,5,29,6,3,1,7] ?_; refine u rfl rfl (r_appendS (e := 5) rfl rfl (by kernel_rfl) (by kernel_rfl) (by kernel_rfl) rfl rfl (by simp only [Ex.nm]; omega)) ?_; refine gg [28,0,9,3,2003,4,3,33] ?_; exact ⟨.inl rfl, _, rfl, .of (by first | rfl | simp [bcells]), trivial⟩
  | int a b n hn =>
    intro hK els hs; rw [xEx_2] at hs ⊢; refine gg [38,5,22,2003,1,0,9,4,2003,4,3,0,31,5,6,0,1,7,0,9,5,2003,6,4,3,0,35,5,26,1,0,9,6,2003,7,6,4,3,0,8,5,26,1,0,9,6,2003,13,6,4,3,0,32,5,29,6,5,1,7] ?_; refine uC (pNum n hn) ?_; refine uR ?_; refine gg [28,0,9,3,2003,4,3,33] ?_; exact ⟨.inl rfl, _, rfl, .of (by first | rfl | simp [bcells]), trivial⟩
  | bool a b n hn =>
    intro hK els hs; rw [xEx_3] at hs ⊢; have ct := tTruth els n hs; refine gg [38,5,22,2003,1,0,9,4,2003,4,3,0,31,5,6,0,1,7,0,9,5,2003,6,4,3,0,35,5,26,1,0,9,6,2003,7,6,4,3,0,8,5,26,1,0,9,6,2003,13,6,4,3,0,8,5,26,1,0,9,6,2003,20,6,4,3,0,32,5,29,6,5,1,7] ?_; refine gc (ct) [28,0,9,3,2003,4,3,33] ?_; exact ⟨.inl rfl, _, rfl, .of (by first | rfl | simp [bcells]), trivial⟩
  | str a b s hs0 =>
    intro hK els hs; rw [xEx_4] at hs ⊢; refine gg [38,5,22,2003,1,0,9,4,2003,4,3,0,31,5,6,0,1,7,0,9,5,2003,6,4,3,0,35,5,26,1,0,9,6,2003,7,6,4,3,0,8,5,26,1,0,9,6,2003,13,6,4,3,0,8,5,26,1,0,9,6,2003,20,6,4,3,0,8,5,26,1,0,9,6,2003,26,6,4,3,0,32,5,29,6,6,1,7] ?_; refine uC (tQuote s hs0) ?_; refine uR ?_; refine gg [28,0,9,3,2003,4,3,33] ?_; exact ⟨.inl rfl, _, rfl, .of (by first | rfl | simp [bcells]), trivial⟩
  | unit a b =>
    intro hK els hs; rw [xEx_5] at hs ⊢; simp only [List.length_append, List.length_cons, List.length_nil] at hs; refine gg [38,5,22,2003,1,0,9,4,2003,4,3,0,31,5,6,0,1,7,0,9,5,2003,6,4,3,0,35,5,26,1,0,9,6,2003,7,6,4,3,0,8,5,26,1,0,9,6,2003,13,6,4,3,0,8,5,26,1,0,9,6,2003,20,6,4,3,0,8,5,26,1,0,9,6,2003,26,6,4,3,0,8,5,26,1,0,9,6,2003,33,6,4,3,0,32,5,29] ?_; refine uR ?_; refine gg [28,0,9,3,2003,4,3,33] ?_; exact ⟨.inl rfl, _, rfl, .of (by first | rfl | simp [bcells]), trivial⟩
  | nil a b =>
    intro hK els hs; rw [xEx_7] at hs ⊢; simp only [List.length_append, List.length_cons, List.length_nil] at hs; refine gg [38,5,22,2003,1,0,9,4,2003,4,3,0,31,5,6,0,1,7,0,9,5,2003,6,4,3,0,35,5,26,1,0,9,6,2003,7,6,4,3,0,8,5,26,1,0,9,6,2003,13,6,4,3,0,8,5,26,1,0,9,6,2003,20,6,4,3,0,8,5,26,1,0,9,6,2003,26,6,4,3,0,8,5,26,1,0,9,6,2003,33,6,4,3,0,8,5,26,1,0,9,6,2003,37,6,4,3,0,32,5,29] ?_; refine uR ?_; refine gg [28,0,9,3,2003,4,3,33] ?_; exact ⟨.inl rfl, _, rfl, .of (by first | rfl | simp [bcells]), trivial⟩
  | pair a b x y hx hy ihx ihy =>
    intro hK els hs; rw [xEx_6] at hs ⊢; simp only [List.length_append, List.length_cons, List.length_nil] at hs; have kx : ExK 100000 x := (exA hK).2.2 x (by simp [Ex.kids]); have ky : ExK 100000 y := (exA hK).2.2 y (by simp [Ex.kids]); have cx := ihx kx (els ++ [[.lit (.int .u8 40)]]) (by (try simp only [List.length_append, List.length_cons, List.length_nil, bcells_len, Ex.nm, Ex.arg]); omega); have cy := ihy ky (els ++ [[.lit (.int .u8 40)]] ++ bcells (xEx x) ++ bcells [44, 32]) (by (try simp only [List.length_append, List.length_cons, List.length_nil, bcells_len, Ex.nm, Ex.arg]); omega)
    refine gg [38,5,22,2003,1,0,9,4,2003,4,3,0,31,5,6,0,1,7,0,9,5,2003,6,4,3,0,35,5,26,1,0,9,6,2003,7,6,4,3,0,8,5,26,1,0,9,6,2003,13,6,4,3,0,8,5,26,1,0,9,6,2003,20,6,4,3,0,8,5,26,1,0,9,6,2003,26,6,4,3,0,8,5,26,1,0,9,6,2003,33,6,4,3,0,8,5,26,1,0,9,6,2003,37,6,4,3,0,8,5,26,1,0,9,6,2003,41,6,4,3,0,32,5,29] ?_; refine u rfl rfl (r_buildSlice (e := 5) (sz := 1) (zs := [.int .u8 0]) ([[.lit (.int .u8 40)]]) rfl rfl (by kernel_rfl) (by kernel_rfl) rfl rfl rfl rfl) ?_; refine uV ?_; refine gg [6,15,1,7] ?_; refine u rfl rfl (r_indexAddr (e := 30) (sz := 16) rfl rfl (by kernel_rfl) rfl rfl (Int.le_refl 0) (exs_at3 (l := [x, y]) (k := 0) rfl)) ?_; refine gg [21,16] ?_; refine uC (cx) ?_; refine uR ?_; refine gg [28,4,9,4,2003,4,3,0,5,29,6,15,1,7] ?_; refine u rfl rfl (r_indexAddr (e := 30) (sz := 16) rfl rfl (by kernel_rfl) rfl rfl (by decide) (exs_at3 (l := [x, y]) (k := 1) rfl)) ?_
    refine gg [21,16] ?_; refine uC (cy) ?_; refine u rfl rfl (r_buildSlice (e := 5) (sz := 1) (zs := [.int .u8 0]) ([[.lit (.int .u8 41)]]) rfl rfl (by kernel_rfl) (by kernel_rfl) rfl rfl rfl rfl) ?_; refine uV ?_; refine gg [28,0,9,3,2003,4,3,33] ?_; exact ⟨.inl rfl, _, rfl, .of (by first | rfl | simp [bcells]), trivial⟩
  | cons a b x y hx hy ihx ihy =>
    intro hK els hs; rw [xEx_8] at hs ⊢; simp only [List.length_append, List.length_cons, List.length_nil] at hs; have kx : ExK 100000 x := (exA hK).2.2 x (by simp [Ex.kids]); have ky : ExK 100000 y := (exA hK).2.2 y (by simp [Ex.kids]); have cx := tQ x (ihx kx) els (by (try simp only [List.length_append, List.length_cons, List.length_nil, bcells_len, Ex.nm, Ex.arg]); omega); have cy := tQ y (ihy ky) (els ++ bcells (qT x.kind (xEx x)) ++ bcells [32, 58, 58, 32]) (by (try simp only [List.length_append, List.length_cons, List.length_nil, bcells_len, Ex.nm, Ex.arg]); omega)
    refine gg [38,5,22,2003,1,0,9,4,2003,4,3,0,31,5,6,0,1,7,0,9,5,2003,6,4,3,0,35,5,26,1,0,9,6,2003,7,6,4,3,0,8,5,26,1,0,9,6,2003,13,6,4,3,0,8,5,26,1,0,9,6,2003,20,6,4,3,0,8,5,26,1,0,9,6,2003,26,6,4,3,0,8,5,26,1,0,9,6,2003,33,6,4,3,0,8,5,26,1,0,9,6,2003,37,6,4,3,0,8,5,26,1,0,9,6,2003,41,6,4,3,0,8,5,26,1,0,9,6,2003,60,6,4,3,0,32,5,29,6,15,1,7] ?_; refine u rfl rfl (r_indexAddr (e := 30) (sz := 16) rfl rfl (by kernel_rfl) rfl rfl (Int.le_refl 0) (exs_at3 (l := [x, y]) (k := 0) rfl)) ?_; refine gg [21,16] ?_; refine uC (cx) ?_; refine uR ?_; refine gg [6,15,1,7] ?_; refine u rfl rfl (r_indexAddr (e := 30) (sz := 16) rfl rfl (by kernel_rfl) rfl rfl (by decide) (exs_at3 (l := [x, y]) (k := 1) rfl)) ?_; refine gg [21,16] ?_; refine gc (cy) [28,4,9,3,2003,4,3,33] ?_; exact ⟨.inl rfl, _, rfl, .of (by first | rfl | simp [bcells]), trivial⟩
  | app a b x y hx hy ihx ihy =>
    intro hK els hs; rw [xEx_10] at hs ⊢; simp only [List.length_append, List.length_cons, List.length_nil] at hs; have kx : ExK 100000 x := (exA hK).2.2 x (by simp [Ex.kids]); have ky : ExK 100000 y := (exA hK).2.2 y (by simp [Ex.kids]); have cx := tQ x (ihx kx) els (by (try simp only [List.length_append, List.length_cons, List.length_nil, bcells_len, Ex.nm, Ex.arg]); omega); have cy := tQ y (ihy ky) (els ++ bcells (qT x.kind (xEx x)) ++ [[.lit (.int .u8 32)]]) (by (try simp only [List.length_append, List.length_cons, List.length_nil, bcells_len, Ex.nm, Ex.arg]); omega)
    refine gg [38,5,22,2003,1,0,9,4,2003,4,3,0,31,5,6,0,1,7,0,9,5,2003,6,4,3,0,35,5,26,1,0,9,6,2003,7,6,4,3,0,8,5,26,1,0,9,6,2003,13,6,4,3,0,8,5,26,1,0,9,6,2003,20,6,4,3,0,8,5,26,1,0,9,6,2003,26,6,4,3,0,8,5,26,1,0,9,6,2003,33,6,4,3,0,8,5,26,1,0,9,6,2003,37,6,4,3,0,8,5,26,1,0,9,6,2003,41,6,4,3,0,8,5,26,1,0,9,6,2003,60,6,4,3,0,8,5,26,1,0,9,6,2003,74,6,4,3,0,32,5,29,6,15,1,7] ?_; refine u rfl rfl (r_indexAddr (e := 30) (sz := 16) rfl rfl (by kernel_rfl) rfl rfl (Int.le_refl 0) (exs_at3 (l := [x, y]) (k := 0) rfl)) ?_; refine gg [21,16] ?_; refine uC (cx) ?_; refine u rfl rfl (r_buildSlice (e := 5) (sz := 1) (zs := [.int .u8 0]) ([[.lit (.int .u8 32)]]) rfl rfl (by kernel_rfl) (by kernel_rfl) rfl rfl rfl rfl) ?_; refine uV ?_; refine gg [6,15,1,7] ?_; refine u rfl rfl (r_indexAddr (e := 30) (sz := 16) rfl rfl (by kernel_rfl) rfl rfl (by decide) (exs_at3 (l := [x, y]) (k := 1) rfl)) ?_
    refine gg [21,16] ?_; refine gc (cy) [28,4,9,3,2003,4,3,33] ?_; exact ⟨.inl rfl, _, rfl, .of (by first | rfl | simp [bcells]), trivial⟩
  | op a b op x y h1 h2 hx hy ihx ihy =>
    intro hK els hs; rw [xEx_16] at hs ⊢; simp only [List.length_append, List.length_cons, List.length_nil] at hs; have kx : ExK 100000 x := (exA hK).2.2 x (by simp [Ex.kids]); have ky : ExK 100000 y := (exA hK).2.2 y (by simp [Ex.kids]); have cx := tQ x (ihx kx) els (by (try simp only [List.length_append, List.length_cons, List.length_nil, bcells_len, Ex.nm, Ex.arg]); omega); have cy := tQ y (ihy ky) (els ++ bcells (qT x.kind (xEx x)) ++ bcells (signT op)) (by (try simp only [List.length_append, List.length_cons, List.length_nil, bcells_len, Ex.nm, Ex.arg]); omega)
    refine gg [38,5,22,2003,1,0,9,4,2003,4,3,0,31,5,6,0,1,7,0,9,5,2003,6,4,3,0,35,5,26,1,0,9,6,2003,7,6,4,3,0,8,5,26,1,0,9,6,2003,13,6,4,3,0,8,5,26,1,0,9,6,2003,20,6,4,3,0,8,5,26,1,0,9,6,2003,26,6,4,3,0,8,5,26,1,0,9,6,2003,33,6,4,3,0,8,5,26,1,0,9,6,2003,37,6,4,3,0,8,5,26,1,0,9,6,2003,41,6,4,3,0,8,5,26,1,0,9,6,2003,60,6,4,3,0,8,5,26,1,0,9,6,2003,74,6,4,3,0,8,5,26,1,0,9,6,2003,89,6,4,3,0,32,5,29,6,15,1,7] ?_; refine u rfl rfl (r_indexAddr (e := 30) (sz := 16) rfl rfl (by kernel_rfl) rfl rfl (Int.le_refl 0) (exs_at3 (l := [x, y]) (k := 0) rfl)) ?_; refine gg [21,16] ?_; refine gc (cx) [6,7,1,7] ?_; refine uC (tSign op) ?_; refine uR ?_; refine gg [6,15,1,7] ?_; refine u rfl rfl (r_indexAddr (e := 30) (sz := 16) rfl rfl (by kernel_rfl) rfl rfl (by decide) (exs_at3 (l := [x, y]) (k := 1) rfl)) ?_; refine gg [21,16] ?_; refine gc (cy) [28,4,9,3,2003,4,3,33] ?_; exact ⟨.inl rfl, _, rfl, .of (by first | rfl | simp [bcells]), trivial⟩
  | asc a b A x hA hx ihx =>
    intro hK els hs; rw [xEx_15] at hs ⊢; simp only [List.length_append, List.length_cons, List.length_nil] at hs; have kx : ExK 100000 x := (exA hK).2.2 x (by simp [Ex.kids]); have cx := ihx kx (els ++ [[.lit (.int .u8 40)]]) (by (try simp only [List.length_append, List.length_cons, List.length_nil, bcells_len, Ex.nm, Ex.arg]); omega); have cA := tSort (els ++ [[.lit (.int .u8 40)]] ++ bcells (xEx x)) A (.inr hA) (exA hK).1 (by (try simp only [List.length_append, List.length_cons, List.length_nil, bcells_len, Ex.nm, Ex.arg]); omega)
    refine gg [38,5,22,2003,1,0,9,4,2003,4,3,0,31,5,6,0,1,7,0,9,5,2003,6,4,3,0,35,5,26,1,0,9,6,2003,7,6,4,3,0,8,5,26,1,0,9,6,2003,13,6,4,3,0,8,5,26,1,0,9,6,2003,20,6,4,3,0,8,5,26,1,0,9,6,2003,26,6,4,3,0,8,5,26,1,0,9,6,2003,33,6,4,3,0,8,5,26,1,0,9,6,2003,37,6,4,3,0,8,5,26,1,0,9,6,2003,41,6,4,3,0,8,5,26,1,0,9,6,2003,60,6,4,3,0,8,5,26,1,0,9,6,2003,74,6,4,3,0,8,5,26,1,0,9,6,2003,89,6,4,3,0,8,5,26,1,0,9,5,2003,106,4,3,0,32,5,29] ?_; refine u rfl rfl (r_buildSlice (e := 5) (sz := 1) (zs := [.int .u8 0]) ([[.lit (.int .u8 40)]]) rfl rfl (by kernel_rfl) (by kernel_rfl) rfl rfl rfl rfl) ?_; refine uV ?_; refine gg [6,15,1,7] ?_; refine u rfl rfl (r_indexAddr (e := 30) (sz := 16) rfl rfl (by kernel_rfl) rfl rfl (Int.le_refl 0) (exs_at3 (l := [x]) (k := 0) rfl)) ?_; refine gg [21,16] ?_; refine gc (cx) [6,8,3,20,3] ?_; refine uC (cA) ?_; refine u rfl rfl (r_buildSlice (e := 5) (sz := 1) (zs := [.int .u8 0]) ([[.lit (.int .u8 41)]]) rfl rfl (by kernel_rfl) (by kernel_rfl) rfl rfl rfl rfl) ?_
    refine uV ?_; refine gg [28,4,9,3,2003,4,3,33] ?_; exact ⟨.inl rfl, _, rfl, .of (by first | rfl | simp [bcells]), trivial⟩
  | func a b s A x hm hA hx ihx =>
    intro hK els hs; rw [xEx_9] at hs ⊢; simp only [List.length_append, List.length_cons, List.length_nil] at hs; have kx : ExK 100000 x := (exA hK).2.2 x (by simp [Ex.kids]); have cA := tParam (els ++ bcells [102, 117, 110, 32]) s A hA (exA hK).1 (by (try simp only [List.length_append, List.length_cons, List.length_nil, bcells_len, Ex.nm, Ex.arg]); omega); have cx := ihx kx (els ++ bcells [102, 117, 110, 32] ++ bcells (paramT s A) ++ bcells [32, 45, 62, 32]) (by (try simp only [List.length_append, List.length_cons, List.length_nil, bcells_len, Ex.nm, Ex.arg]); omega)
    have hL : Con Tryz.prog 62 [.own byK 1 (els), .agg (exX (.mk 9 a b s [] 0 [] 0 A noTy [] [x]))] [] (.own byK 1 (els ++ bcells (xEx (.mk 9 a b s [] 0 [] 0 A noTy [] [x])))) [] := by
      rw [xEx_9]; refine gg [38,5,22,2003,1,0,9,4,2003,4,3,0,31,5,6,0,1,7,0,9,5,2003,8,4,3,0,35,5,26,1,0,9,6,2003,9,8,4,3,0,32,5,29] ?_; refine uR ?_; refine gg [6,3,1,7,6,8,3,20,3] ?_; refine gc (cA) [28,4,9,4,2003,4,3,0,5,29] ?_; refine uR ?_; refine gg [6,15,1,7] ?_; refine u rfl rfl (r_indexAddr (e := 30) (sz := 16) rfl rfl (by kernel_rfl) rfl rfl (Int.le_refl 0) (exs_at3 (l := [x]) (k := 0) rfl)) ?_; refine gg [21,16] ?_; refine gc (cx) [28,4,9,3,2003,4,3,33] ?_; exact ⟨.inl rfl, _, rfl, .of (by first | rfl | simp [bcells]), trivial⟩
    rw [xEx_9] at hL; refine gg [38,5,22,2003,1,0,9,4,2003,4,3,0,31,5,6,0,1,7,0,9,5,2003,6,4,3,0,35,5,26,1,0,9,6,2003,7,6,4,3,0,8,5,26,1,0,9,6,2003,13,6,4,3,0,8,5,26,1,0,9,6,2003,20,6,4,3,0,8,5,26,1,0,9,6,2003,26,6,4,3,0,8,5,26,1,0,9,6,2003,33,6,4,3,0,8,5,26,1,0,9,6,2003,37,6,4,3,0,8,5,26,1,0,9,6,2003,41,6,4,3,0,8,5,26,1,0,9,6,2003,60,6,4,3,0,8,5,26,1,0,9,6,2003,74,6,4,3,0,8,5,26,1,0,9,6,2003,89,6,4,3,0,8,5,26,1,0,9,5,2003,106,4,3,0,8,34,5,29,20,16] ?_; refine gc (hL) [28,0,9,1,4,33] ?_; exact ⟨.inl rfl, _, rfl, .refl _, trivial⟩
  | letE a b s A x y hm hA hx hy ihx ihy =>
    intro hK els hs; rw [xEx_11] at hs ⊢; simp only [List.length_append, List.length_cons, List.length_nil] at hs; have kx : ExK 100000 x := (exA hK).2.2 x (by simp [Ex.kids]); have ky : ExK 100000 y := (exA hK).2.2 y (by simp [Ex.kids]); have cA := tSort (els ++ bcells [108, 101, 116, 32] ++ bcells s) A hA (exA hK).1 (by (try simp only [List.length_append, List.length_cons, List.length_nil, bcells_len, Ex.nm, Ex.arg]); omega); have cB := tBody 11 a b s [] 0 [] 0 A noTy x y (ihx kx) (ihy ky) (els ++ bcells [108, 101, 116, 32] ++ bcells s ++ bcells (sortT A)) (by (try simp only [List.length_append, List.length_cons, List.length_nil, bcells_len, Ex.nm, Ex.arg]); omega)
    have hL : Con Tryz.prog 62 [.own byK 1 (els), .agg (exX (.mk 11 a b s [] 0 [] 0 A noTy [] [x, y]))] [] (.own byK 1 (els ++ bcells (xEx (.mk 11 a b s [] 0 [] 0 A noTy [] [x, y])))) [] := by
      rw [xEx_11]; refine gg [38,5,22,2003,1,0,9,4,2003,4,3,0,31,5,6,0,1,7,0,9,5,2003,8,4,3,0,35,5,26,1,0,9,6,2003,9,8,4,3,0,8,5,26,1,0,9,6,2003,25,8,4,3,0,32,5,29] ?_; refine uR ?_; refine gg [6,3,1,7] ?_; refine uR ?_; refine gg [6,8,3,20,3] ?_; refine gc (cA) [28,4,9,4,2003,4,3,0,5,29,20,16] ?_; refine gc (cB) [28,0,9,3,2003,4,3,33] ?_; exact ⟨.inl rfl, _, rfl, .of (by first | rfl | simp [bcells]), trivial⟩
    rw [xEx_11] at hL; refine gg [38,5,22,2003,1,0,9,4,2003,4,3,0,31,5,6,0,1,7,0,9,5,2003,6,4,3,0,35,5,26,1,0,9,6,2003,7,6,4,3,0,8,5,26,1,0,9,6,2003,13,6,4,3,0,8,5,26,1,0,9,6,2003,20,6,4,3,0,8,5,26,1,0,9,6,2003,26,6,4,3,0,8,5,26,1,0,9,6,2003,33,6,4,3,0,8,5,26,1,0,9,6,2003,37,6,4,3,0,8,5,26,1,0,9,6,2003,41,6,4,3,0,8,5,26,1,0,9,6,2003,60,6,4,3,0,8,5,26,1,0,9,6,2003,74,6,4,3,0,8,5,26,1,0,9,6,2003,89,6,4,3,0,8,5,26,1,0,9,5,2003,106,4,3,0,8,34,5,29,20,16] ?_; refine gc (hL) [28,0,9,1,4,33] ?_; exact ⟨.inl rfl, _, rfl, .refl _, trivial⟩
  | recE a b s g A B x y hm hg hA hB hx hy ihx ihy =>
    intro hK els hs; rw [xEx_12] at hs ⊢; simp only [List.length_append, List.length_cons, List.length_nil] at hs; have kx : ExK 100000 x := (exA hK).2.2 x (by simp [Ex.kids]); have ky : ExK 100000 y := (exA hK).2.2 y (by simp [Ex.kids]); have cA := tParam (els ++ bcells [108, 101, 116, 32, 114, 101, 99, 32] ++ bcells s ++ [[.lit (.int .u8 32)]]) g A hA (exA hK).1 (by (try simp only [List.length_append, List.length_cons, List.length_nil, bcells_len, Ex.nm, Ex.arg]); omega); have cS := tSort (els ++ bcells [108, 101, 116, 32, 114, 101, 99, 32] ++ bcells s ++ [[.lit (.int .u8 32)]] ++ bcells (paramT g A)) B hB (exA hK).2.1 (by (try simp only [List.length_append, List.length_cons, List.length_nil, bcells_len, Ex.nm, Ex.arg]); omega)
    have cB := tBody 12 a b s g 0 [] 0 A B x y (ihx kx) (ihy ky) (els ++ bcells [108, 101, 116, 32, 114, 101, 99, 32] ++ bcells s ++ [[.lit (.int .u8 32)]] ++ bcells (paramT g A) ++ bcells (sortT B)) (by (try simp only [List.length_append, List.length_cons, List.length_nil, bcells_len, Ex.nm, Ex.arg]); omega); have hL : Con Tryz.prog 62 [.own byK 1 (els), .agg (exX (.mk 12 a b s g 0 [] 0 A B [] [x, y]))] [] (.own byK 1 (els ++ bcells (xEx (.mk 12 a b s g 0 [] 0 A B [] [x, y])))) [] := by
      rw [xEx_12]; refine gg [38,5,22,2003,1,0,9,4,2003,4,3,0,31,5,6,0,1,7,0,9,5,2003,8,4,3,0,35,5,26,1,0,9,6,2003,9,8,4,3,0,8,5,26,1,0,9,6,2003,25,8,4,3,0,8,5,26,1,0,9,6,2003,38,8,4,3,0,32,5,29] ?_; refine uR ?_; refine gg [6,3,1,7] ?_; refine uR ?_; refine u rfl rfl (r_buildSlice (e := 5) (sz := 1) (zs := [.int .u8 0]) ([[.lit (.int .u8 32)]]) rfl rfl (by kernel_rfl) (by kernel_rfl) rfl rfl rfl rfl) ?_; refine uV ?_; refine gg [28,4,9,4,2003,4,3,0,5,29,6,4,1,7,6,8,3,20,3] ?_; refine gc (cA) [6,11,3,20,3] ?_; refine gc (cS) [20,16] ?_; refine gc (cB) [28,4,9,3,2003,4,3,33] ?_; exact ⟨.inl rfl, _, rfl, .of (by first | rfl | simp [bcells]), trivial⟩
    rw [xEx_12] at hL; refine gg [38,5,22,2003,1,0,9,4,2003,4,3,0,31,5,6,0,1,7,0,9,5,2003,6,4,3,0,35,5,26,1,0,9,6,2003,7,6,4,3,0,8,5,26,1,0,9,6,2003,13,6,4,3,0,8,5,26,1,0,9,6,2003,20,6,4,3,0,8,5,26,1,0,9,6,2003,26,6,4,3,0,8,5,26,1,0,9,6,2003,33,6,4,3,0,8,5,26,1,0,9,6,2003,37,6,4,3,0,8,5,26,1,0,9,6,2003,41,6,4,3,0,8,5,26,1,0,9,6,2003,60,6,4,3,0,8,5,26,1,0,9,6,2003,74,6,4,3,0,8,5,26,1,0,9,6,2003,89,6,4,3,0,8,5,26,1,0,9,5,2003,106,4,3,0,8,34,5,29,20,16] ?_; refine gc (hL) [28,0,9,1,4,33] ?_; exact ⟨.inl rfl, _, rfl, .refl _, trivial⟩
  | ifE a b x y z hx hy hz ihx ihy ihz =>
    intro hK els hs; rw [xEx_13] at hs ⊢; simp only [List.length_append, List.length_cons, List.length_nil] at hs; have kx : ExK 100000 x := (exA hK).2.2 x (by simp [Ex.kids]); have ky : ExK 100000 y := (exA hK).2.2 y (by simp [Ex.kids]); have kz : ExK 100000 z := (exA hK).2.2 z (by simp [Ex.kids]); have cx := ihx kx (els ++ bcells [105, 102, 32]) (by (try simp only [List.length_append, List.length_cons, List.length_nil, bcells_len, Ex.nm, Ex.arg]); omega); have cy := ihy ky (els ++ bcells [105, 102, 32] ++ bcells (xEx x) ++ bcells [32, 116, 104, 101, 110, 32]) (by (try simp only [List.length_append, List.length_cons, List.length_nil, bcells_len, Ex.nm, Ex.arg]); omega)
    have cz := ihz kz (els ++ bcells [105, 102, 32] ++ bcells (xEx x) ++ bcells [32, 116, 104, 101, 110, 32] ++ bcells (xEx y) ++ bcells [32, 101, 108, 115, 101, 32]) (by (try simp only [List.length_append, List.length_cons, List.length_nil, bcells_len, Ex.nm, Ex.arg]); omega); have hL : Con Tryz.prog 62 [.own byK 1 (els), .agg (exX (.mk 13 a b [] [] 0 [] 0 noTy noTy [] [x, y, z]))] [] (.own byK 1 (els ++ bcells (xEx (.mk 13 a b [] [] 0 [] 0 noTy noTy [] [x, y, z])))) [] := by
      rw [xEx_13]; refine gg [38,5,22,2003,1,0,9,4,2003,4,3,0,31,5,6,0,1,7,0,9,5,2003,8,4,3,0,35,5,26,1,0,9,6,2003,9,8,4,3,0,8,5,26,1,0,9,6,2003,25,8,4,3,0,8,5,26,1,0,9,6,2003,38,8,4,3,0,8,5,26,1,0,9,5,2003,58,4,3,0,32,5,29] ?_; refine uR ?_; refine gg [6,15,1,7] ?_; refine u rfl rfl (r_indexAddr (e := 30) (sz := 16) rfl rfl (by kernel_rfl) rfl rfl (Int.le_refl 0) (exs_at3 (l := [x, y, z]) (k := 0) rfl)) ?_; refine gg [21,16] ?_; refine gc (cx) [28,4,9,4,2003,4,3,0,5,29] ?_; refine uR ?_; refine gg [6,15,1,7] ?_; refine u rfl rfl (r_indexAddr (e := 30) (sz := 16) rfl rfl (by kernel_rfl) rfl rfl (by decide) (exs_at3 (l := [x, y, z]) (k := 1) rfl)) ?_; refine gg [21,16] ?_; refine gc (cy) [28,4,9,4,2003,4,3,0,5,29] ?_; refine uR ?_; refine gg [6,15,1,7] ?_; refine u rfl rfl (r_indexAddr (e := 30) (sz := 16) rfl rfl (by kernel_rfl) rfl rfl (by decide) (exs_at3 (l := [x, y, z]) (k := 2) rfl)) ?_
      refine gg [21,16] ?_; refine gc (cz) [28,4,9,3,2003,4,3,33] ?_; exact ⟨.inl rfl, _, rfl, .of (by first | rfl | simp [bcells]), trivial⟩
    rw [xEx_13] at hL; refine gg [38,5,22,2003,1,0,9,4,2003,4,3,0,31,5,6,0,1,7,0,9,5,2003,6,4,3,0,35,5,26,1,0,9,6,2003,7,6,4,3,0,8,5,26,1,0,9,6,2003,13,6,4,3,0,8,5,26,1,0,9,6,2003,20,6,4,3,0,8,5,26,1,0,9,6,2003,26,6,4,3,0,8,5,26,1,0,9,6,2003,33,6,4,3,0,8,5,26,1,0,9,6,2003,37,6,4,3,0,8,5,26,1,0,9,6,2003,41,6,4,3,0,8,5,26,1,0,9,6,2003,60,6,4,3,0,8,5,26,1,0,9,6,2003,74,6,4,3,0,8,5,26,1,0,9,6,2003,89,6,4,3,0,8,5,26,1,0,9,5,2003,106,4,3,0,8,34,5,29,20,16] ?_; refine gc (hL) [28,0,9,1,4,33] ?_; exact ⟨.inl rfl, _, rfl, .refl _, trivial⟩
  | matchE a b x l hne hx hp hcp he ihx ihe =>
    intro hK els hs; rw [xEx_14] at hs ⊢; simp only [List.length_append, List.length_cons, List.length_nil] at hs; have kx : ExK 100000 x := (exA hK).2.2 x (by simp [Ex.kids]); have ke : ∀ q, q ∈ l → ExK 100000 q.2 := fun q hq => (exA hK).2.2 q.2 (List.mem_cons_of_mem _ (List.mem_map.2 ⟨q, hq, rfl⟩))
    have cx := ihx kx (els ++ bcells [109, 97, 116, 99, 104, 32]) (by (try simp only [List.length_append, List.length_cons, List.length_nil, bcells_len, Ex.nm, Ex.arg]); omega); have hll := aL_len true l; have hlp : (pasD (Ex.pats (.mk 14 a b [] [] 0 [] 0 noTy noTy (l.map (·.1)) (x :: l.map (·.2))))).length = l.length := by rw [pasD_len3]; exact List.length_map _
    have hle2 : (exsD (Ex.kids (.mk 14 a b [] [] 0 [] 0 noTy noTy (l.map (·.1)) (x :: l.map (·.2))))).length = l.length + 1 := by rw [exsD_len]; show (x :: l.map (·.2)).length = _; rw [List.length_cons, List.length_map]
    have hle : (exsD (x :: l.map (·.2))).length = l.length + 1 := by rw [exsD_len, List.length_cons, List.length_map]
    have hbl : (els ++ bcells [109, 97, 116, 99, 104, 32] ++ bcells (xEx x) ++ bcells [32, 119, 105, 116, 104, 32]).length = els.length + 6 + (xEx x).length + 6 := by simp only [List.length_append, bcells_len, List.length_cons, List.length_nil]
    have hL : Con Tryz.prog 62 [.own byK 1 (els), .agg (exX (.mk 14 a b [] [] 0 [] 0 noTy noTy (l.map (·.1)) (x :: l.map (·.2))))] [] (.own byK 1 (els ++ bcells (xEx (.mk 14 a b [] [] 0 [] 0 noTy noTy (l.map (·.1)) (x :: l.map (·.2)))))) [] := by
      rw [xEx_14]; refine gg [38,5,22,2003,1,0,9,4,2003,4,3,0,31,5,6,0,1,7,0,9,5,2003,8,4,3,0,35,5,26,1,0,9,6,2003,9,8,4,3,0,8,5,26,1,0,9,6,2003,25,8,4,3,0,8,5,26,1,0,9,6,2003,38,8,4,3,0,8,5,26,1,0,9,5,2003,58,4,3,0,8,34,5,29] ?_; refine uR ?_; refine gg [6,15,1,7] ?_; refine u rfl rfl (r_indexAddr (e := 30) (sz := 16) rfl rfl (by kernel_rfl) rfl rfl (Int.le_refl 0) (exs_at3 (l := (x :: l.map (·.2))) (k := 0) rfl)) ?_; refine gg [21,16] ?_; refine uC (cx) ?_; refine uR ?_; refine gg [28,4,9,4,2003,4,3,0,31,5,6,14,1,7,18,2,0,9,7,2003,92,91,90,4,3,0,35] ?_; refine J_loopF (α := { i : Nat // i ≤ l.length }) (fun p => [(0, .own byK 1 (rowM (els ++ bcells [109, 97, 116, 99, 104, 32] ++ bcells (xEx x) ++ bcells [32, 119, 105, 116, 104, 32]) l p.1)), (92, .c (.lit (.int .i64 (p.1 : Int))))]) [(3, _), (4, _), (90, _), (91, _), (2003, _)] (fun p => l.length - p.1) ⟨0, Nat.zero_le _⟩ ⟨rfl, rfl, rfl, rfl, rfl, rfl, rfl, trivial⟩ ?_
      rintro ⟨i, hi⟩; dsimp only; have hrl := rowM_len (b := (els ++ bcells [109, 97, 116, 99, 104, 32] ++ bcells (xEx x) ++ bcells [32, 119, 105, 116, 104, 32])) (l := l) (i := i); have hti := aL_take true l i; refine js ?_; refine bL ?_ ?_
      · intro h93; obtain ⟨q, hq⟩ : ∃ q, l[i]? = some q := ⟨_, List.getElem?_eq_getElem (show i < l.length by omega)⟩; have hqm := List.mem_of_getElem? hq; have hq1 : (l.map (·.1))[i]? = some q.1 := by rw [List.getElem?_map, hq]; rfl
        have hq2 : (x :: l.map (·.2))[i + 1]? = some q.2 := by rw [List.getElem?_cons_succ, List.getElem?_map, hq]; rfl
        have ht2 := aL_take true l (i + 1); rw [take_snoc hq, aL_snoc] at ht2; simp only [List.length_append, List.length_cons, List.length_nil] at ht2; refine gg [0,9,8,2003,93,92,91,90,4,3,0,31,32,34,31,35,5,2] ?_; refine u rfl rfl (r_indexAddr (e := 40) (sz := 7) rfl rfl (by kernel_rfl) rfl rfl (by omega) (pas_at3 hq1)) ?_; refine gg [21,7,24,2006,1,10,0,9,14,2006,2003,96,95,94,93,92,91,90,6,5,4,3,0,31,5,2] ?_; refine bG ?_ ?_
        · intro h98; have hn : (true && (l.take i).isEmpty) = false := by
                cases ht : l.take i with
                | nil => have := congrArg List.length ht; rw [List.length_take, List.length_nil] at this; omega
                | cons _ _ => rfl
          rw [hn] at ht2; simp only [Bool.false_eq_true, if_false, List.length_cons, List.length_nil] at ht2; have cp := tPutPat (hp q hqm) (rowM (els ++ bcells [109, 97, 116, 99, 104, 32] ++ bcells (xEx x) ++ bcells [32, 119, 105, 116, 104, 32]) l i ++ bcells [32, 124, 32]) (by (try simp only [List.length_append, List.length_cons, List.length_nil, bcells_len, Ex.nm, Ex.arg]); omega); have ce := ihe q hqm (ke q hqm) (rowM (els ++ bcells [109, 97, 116, 99, 104, 32] ++ bcells (xEx x) ++ bcells [32, 119, 105, 116, 104, 32]) l i ++ bcells [32, 124, 32] ++ bcells (xPat q.1) ++ bcells [32, 45, 62, 32]) (by (try simp only [List.length_append, List.length_cons, List.length_nil, bcells_len, Ex.nm, Ex.arg]); omega)
          refine gg [0,9,16,2006,2003,98,97,96,95,94,93,92,91,90,6,5,4,3,0,32,37,29] ?_; refine uR ?_; refine gg [28,0,9,16,2006,2003,98,97,96,95,94,93,92,91,90,6,5,4,3,0,37,29,20,7] ?_; refine uC (cp) ?_; refine uR ?_; refine gg [6,15,1,7,2,27] ?_; refine u rfl rfl (r_indexAddr (e := 30) (sz := 16) rfl rfl (by kernel_rfl) rfl rfl (by omega) (exs_at3 (l := x :: l.map (·.2)) (k := i + 1) hq2)) ?_; refine gg [21,16] ?_; refine gc (ce) [28,4,9,23,2006,2003,110,109,108,107,106,105,102,98,97,96,95,94,93,92,91,90,6,5,4,3,0,37,27,2,0] ?_; rw [rowM_next hq (by omega)]; exact ⟨⟨i + 1, by omega⟩, by simp only; omega, rfl, rfl, rfl, rfl, rfl, rfl, rfl, trivial⟩
        intro h98; have hi0 : i = 0 := by omega
        have cp := tPutPat (hp q hqm) (rowM (els ++ bcells [109, 97, 116, 99, 104, 32] ++ bcells (xEx x) ++ bcells [32, 119, 105, 116, 104, 32]) l i) (by (try simp only [List.length_append, List.length_cons, List.length_nil, bcells_len, Ex.nm, Ex.arg]); omega); have ce := ihe q hqm (ke q hqm) (rowM (els ++ bcells [109, 97, 116, 99, 104, 32] ++ bcells (xEx x) ++ bcells [32, 119, 105, 116, 104, 32]) l i ++ bcells (xPat q.1) ++ bcells [32, 45, 62, 32]) (by (try simp only [List.length_append, List.length_cons, List.length_nil, bcells_len, Ex.nm, Ex.arg]); omega)
        refine gg [0,9,16,2006,2003,98,97,96,95,94,93,92,91,90,6,5,4,3,0,8,34,37,29,20,7] ?_; refine uC (cp) ?_; refine uR ?_; refine gg [6,15,1,7,2,27] ?_; refine u rfl rfl (r_indexAddr (e := 30) (sz := 16) rfl rfl (by kernel_rfl) rfl rfl (by omega) (exs_at3 (l := x :: l.map (·.2)) (k := i + 1) hq2)) ?_; refine gg [21,16] ?_; refine gc (ce) [28,4,9,23,2006,2003,110,109,108,107,106,105,102,98,97,96,95,94,93,92,91,90,6,5,4,3,0,37,27,2,0] ?_; rw [rowM_first hq hi0]; exact ⟨⟨i + 1, by omega⟩, by simp only; omega, rfl, rfl, rfl, rfl, rfl, rfl, rfl, trivial⟩
      intro h93; obtain rfl : i = l.length := by omega
      rw [List.take_length] at hrl; refine gg [0,9,8,2003,93,92,91,90,4,3,0,31,8,36,5,29] ?_; refine uR ?_; refine gg [28,0,9,1,4,33] ?_; refine ⟨.inl rfl, _, rfl, .of ?_, trivial⟩; rw [rowM_eq, List.take_length]
      simp [bcells]
    rw [xEx_14] at hL; refine gg [38,5,22,2003,1,0,9,4,2003,4,3,0,31,5,6,0,1,7,0,9,5,2003,6,4,3,0,35,5,26,1,0,9,6,2003,7,6,4,3,0,8,5,26,1,0,9,6,2003,13,6,4,3,0,8,5,26,1,0,9,6,2003,20,6,4,3,0,8,5,26,1,0,9,6,2003,26,6,4,3,0,8,5,26,1,0,9,6,2003,33,6,4,3,0,8,5,26,1,0,9,6,2003,37,6,4,3,0,8,5,26,1,0,9,6,2003,41,6,4,3,0,8,5,26,1,0,9,6,2003,60,6,4,3,0,8,5,26,1,0,9,6,2003,74,6,4,3,0,8,5,26,1,0,9,6,2003,89,6,4,3,0,8,5,26,1,0,9,5,2003,106,4,3,0,8,34,5,29,20,16] ?_; refine gc (hL) [28,0,9,1,4,33] ?_; exact ⟨.inl rfl, _, rfl, .refl _, trivial⟩

end Go.Proofs.YtlagglkpbnbmeaaGreatDoor

/- The program's print.Text and print.Pat. -/
namespace Go.Proofs.YtlagglkpbnbmeaaGreatDoor
open Go Go.RowKit
set_option maxRecDepth 100000
set_option maxHeartbeats 4000000
set_option linter.unusedVariables false
set_option linter.unusedSimpArgs false

def textOf (e : Ex) : List UInt8 := if mCheck e = true then if (xEx e).length ≤ 16384 then xEx e else [] else []
def textErr (e : Ex) : Int := if mCheck e = true then if (xEx e).length ≤ 16384 then 0 else 2 else 1
def patOf (p : Pa) : List UInt8 := if mCheckPat p = true then xPat p else []
def patErr (p : Pa) : Int := if mCheckPat p = true then 0 else 1
theorem tx_ok {e : Ex} (h : mCheck e = true) (hl : (xEx e).length ≤ 16384) : textOf e = xEx e ∧ textErr e = 0 := by
  rw [textOf, textErr, if_pos h, if_pos h, if_pos hl, if_pos hl]; exact ⟨rfl, rfl⟩
theorem tx_big {e : Ex} (h : mCheck e = true) (hl : ¬ (xEx e).length ≤ 16384) : textOf e = [] ∧ textErr e = 2 := by
  rw [textOf, textErr, if_pos h, if_pos h, if_neg hl, if_neg hl]; exact ⟨rfl, rfl⟩
theorem tx_no {e : Ex} (h : ¬ mCheck e = true) : textOf e = [] ∧ textErr e = 1 := by
  rw [textOf, textErr, if_neg h, if_neg h]; exact ⟨rfl, rfl⟩
theorem tText {e : Ex} (hk : ExK 100000 e) (hn : ExN e) (hl : mCheck e = true → (xEx e).length ≤ 1000000000) : Con Tryz.prog 11 [.agg (exX e)] [] (.tup [.c (.lit (str (textOf e))), .c (.lit (.int .i64 (textErr e)))]) [] := by
  have hc := tCheck (n := 100000) (by decide) hk
  by_cases hm : mCheck e = true
  · rw [if_pos hm] at hc; have hR := rex_of hn hm; have hp := con_nil0 (tPutE hR hk [] (by rw [List.length_nil]; have := hl hm; omega)); rw [List.nil_append] at hp; have hbl : (bcells (xEx e)).length = (xEx e).length := bcells_len _; have hle := hl hm
    by_cases hs : (xEx e).length ≤ 16384
    · have e1 : textOf e = xEx e := by rw [textOf, if_pos hm, if_pos hs]
      have e2 : textErr e = 0 := by rw [textErr, if_pos hm, if_pos hs]
      rw [e1, e2]; refine gg [38,5,22,2001,1,1,0,9,4,2001,3,2,1,31,5,20,16] ?_; refine gc (hc) [1,0,9,5,2001,4,3,2,1,5,2] ?_; refine u rfl rfl (r_neI rfl rfl rfl rfl) ?_; refine gg [0,9,6,2001,9,4,3,2,1,8,34,5,20,16] ?_; refine gc (hp) [28,0,9,3,5,3,2,31,31] ?_; refine J_turn (t_ownC 5 rfl) (by kernel_rfl) ?_; refine gg [37,2,18] ?_; refine u rfl rfl ((r_gtI rfl rfl rfl rfl).cast (cast_b (b' := false) (by exact decide_eq_false (by omega)))) ?_; refine gg [0,9,4,15,5,3,2,8,34,5,2] ?_; refine u rfl rfl (r_strOf rfl rfl (by kernel_rfl) rfl) ?_; refine gg [1,1,0,9,2,3,2,33] ?_; exact ⟨.inl rfl, _, rfl, .refl _, trivial⟩
    have e1 : textOf e = [] := by rw [textOf, if_pos hm, if_neg hs]
    have e2 : textErr e = 2 := by rw [textErr, if_pos hm, if_neg hs]
    rw [e1, e2]; refine gg [38,5,22,2001,1,1,0,9,4,2001,3,2,1,31,5,20,16] ?_; refine gc (hc) [1,0,9,5,2001,4,3,2,1,5,2] ?_; refine u rfl rfl (r_neI rfl rfl rfl rfl) ?_; refine gg [0,9,6,2001,9,4,3,2,1,8,34,5,20,16] ?_; refine gc (hp) [28,0,9,3,5,3,2,31,31] ?_; refine J_turn (t_ownC 5 rfl) (by kernel_rfl) ?_; refine gg [37,2,18] ?_; refine u rfl rfl ((r_gtI rfl rfl rfl rfl).cast (cast_b (b' := true) (by exact decide_eq_true (by omega)))) ?_; refine gg [0,9,4,15,5,3,2,32,5,1,1,0,9,3,5,3,2,33] ?_; exact ⟨.inl rfl, _, rfl, .refl _, trivial⟩
  rw [if_neg hm] at hc; have e1 : textOf e = [] := by rw [textOf, if_neg hm]
  have e2 : textErr e = 1 := by rw [textErr, if_neg hm]
  rw [e1, e2]; refine gg [38,5,22,2001,1,1,0,9,4,2001,3,2,1,31,5,20,16] ?_; refine gc (hc) [1,0,9,5,2001,4,3,2,1,5,2] ?_; refine u rfl rfl (r_neI rfl rfl rfl rfl) ?_; refine gg [0,9,6,2001,9,4,3,2,1,32,5,2,1,1,0,9,4,2001,3,2,1,33] ?_; exact ⟨.inl rfl, _, rfl, .refl _, trivial⟩
theorem tPatText {p : Pa} (hk : PaK 100000 p) (hn : PaN p) (hl : mCheckPat p = true → (xPat p).length ≤ 1000000000) : Con Tryz.prog 17 [.agg (paX p)] [] (.tup [.c (.lit (str (patOf p))), .c (.lit (.int .i64 (patErr p)))]) [] := by
  have hc := tCheckPat (n := 100000) (by decide) hk
  by_cases hm : mCheckPat p = true
  · rw [if_pos hm] at hc; have hR := rpa_of hn (runP_own _ _ hm); have hp := con_nil0 (tPutPat hR [] (by rw [List.length_nil]; have := hl hm; omega)); rw [List.nil_append] at hp; have e1 : patOf p = xPat p := by rw [patOf, if_pos hm]
    have e2 : patErr p = 0 := by rw [patErr, if_pos hm]
    rw [e1, e2]; refine gg [38,5,22,2001,1,1,0,9,4,2001,3,2,1,31,5,20,7] ?_; refine gc (hc) [1,0,9,5,2001,4,3,2,1,5,2] ?_; refine u rfl rfl (r_neI rfl rfl rfl rfl) ?_; refine gg [0,9,6,2001,8,4,3,2,1,8,34,5,20,7] ?_; refine uC (hp) ?_; refine u rfl rfl (r_strOwn rfl rfl (by kernel_rfl) rfl) ?_; refine gg [1,1,0,9,2,3,2,33] ?_; exact ⟨.inl rfl, _, rfl, .refl _, trivial⟩
  rw [if_neg hm] at hc; have e1 : patOf p = [] := by rw [patOf, if_neg hm]
  have e2 : patErr p = 1 := by rw [patErr, if_neg hm]
  rw [e1, e2]; refine gg [38,5,22,2001,1,1,0,9,4,2001,3,2,1,31,5,20,7] ?_; refine gc (hc) [1,0,9,5,2001,4,3,2,1,5,2] ?_; refine u rfl rfl (r_neI rfl rfl rfl rfl) ?_; refine gg [0,9,6,2001,8,4,3,2,1,32,5,2,1,1,0,9,4,2001,3,2,1,33] ?_; exact ⟨.inl rfl, _, rfl, .refl _, trivial⟩

end Go.Proofs.YtlagglkpbnbmeaaGreatDoor

