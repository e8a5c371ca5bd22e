/- The plain law of ParseOps: names with operators between, as the grammar ranks them. -/
import Derived.Test.YtkipkplpmeholaaOp1
import Derived.Test.YtkipkplpmeholaaFi
namespace Go.Proofs.Ytkipkplpmeholaa
set_option linter.unusedVariables false
set_option linter.unusedSimpArgs false

/-- the words of a source of names "a" and signs -/
def kdW (w : List UInt8) : Nat := if w = [97] then 1 else 5
def sgn (k : Nat) : List UInt8 := ([[43], [45], [42], [47], [58, 58]] : List (List UInt8)).getD k []
def encW (r : List Nat) : List (List UInt8) := r.flatMap fun k => [sgn k, [97]]
theorem encW_cons (k : Nat) (r : List Nat) : encW (k :: r) = sgn k :: [97] :: encW r := rfl
/-- the tokens are these words -/
def HasW (ts : List Tok) (W : List (List UInt8)) : Prop := ∀ j : Nat, (ts[j]?).map (fun t : Tok => (t.k, t.s)) = (W[j]?).map (fun w : List UInt8 => (kdW w, w))
section
variable {ts : List Tok} {W : List (List UInt8)} (hW : HasW ts W)
include hW
theorem atW {j k : Nat} {s : List UInt8} : at? ts j k s = (match W[j]? with | some w => kdW w == k && w == s | none => false) := by
  have h := hW j
  rcases hx : ts[j]? with _ | x
  · rw [hx] at h
    rcases hw : W[j]? with _ | w
    · exact at_lt (by have := List.getElem?_eq_none_iff.1 hx; omega)
    · rw [hw] at h; cases h
  · rw [hx] at h
    rcases hw : W[j]? with _ | w
    · rw [hw] at h; cases h
    · rw [hw] at h
      simp only [Option.map_some, Option.some.injEq, Prod.mk.injEq] at h
      rw [at?, hit_at hx, h.1, h.2]
theorem ofW {j k : Nat} : of? ts j k = (match W[j]? with | some w => kdW w == k | none => false) := by
  have h := hW j
  unfold of?
  rcases hx : ts[j]? with _ | x
  · rw [hx] at h
    rcases hw : W[j]? with _ | w
    · rfl
    · rw [hw] at h; cases h
  · rw [hx] at h
    rcases hw : W[j]? with _ | w
    · rw [hw] at h; cases h
    · rw [hw] at h
      simp only [Option.map_some, Option.some.injEq, Prod.mk.injEq] at h
      simp only [h.1]
theorem strW {j : Nat} {w : List UInt8} (h : W[j]? = some w) : strE ts j = w := by
  have h0 := hW j
  unfold strE
  rcases hx : ts[j]? with _ | x
  · rw [hx, h] at h0; cases h0
  · rw [hx, h] at h0
    simp only [Option.map_some, Option.some.injEq, Prod.mk.injEq] at h0
    exact h0.2
theorem lenW : ts.length = W.length := by
  rcases Nat.lt_trichotomy ts.length W.length with h | h | h
  · have := hW ts.length
    rw [List.getElem?_eq_none (Nat.le_refl _), List.getElem?_eq_getElem h] at this; cases this
  · exact h
  · have := hW W.length
    rw [List.getElem?_eq_none (Nat.le_refl _), List.getElem?_eq_getElem h] at this; cases this
/-- a word that ends a row of operators -/
def EndW (o : Option (List UInt8)) : Prop := o = none ∨ o = some [60] ∨ o = some [61]
/-- an operator, or an end -/
def SignW (o : Option (List UInt8)) : Prop := EndW o ∨ ∃ k, k ≤ 4 ∧ o = some (sgn k)
omit hW in
theorem sgn_cases {k : Nat} (h : k ≤ 4) : k = 0 ∨ k = 1 ∨ k = 2 ∨ k = 3 ∨ k = 4 := by omega
theorem begW {j : Nat} (h : SignW W[j]?) : eBegins ts j = false := by
  unfold eBegins
  simp only [atW hW, ofW hW]
  rcases h with (h | h | h) | ⟨k, hk, h⟩
  · rw [h]; rfl
  · rw [h]; decide
  · rw [h]; decide
  · rw [h]
    rcases sgn_cases hk with rfl | rfl | rfl | rfl | rfl <;> decide
theorem appW {ex : Nat → QR Ex} {j : Nat} (h : W[j]? = some [97]) (h2 : SignW W[j + 1]?) : qApp ts ex j = .ok (eLeaf ts 1 j [97] 0 [], j + 1) := by
  have h3 : qLeaf ts j = .ok (eLeaf ts 1 j [97] 0 [], j + 1) := by
    unfold qLeaf
    rw [if_pos (by rw [ofW hW, h]; rfl), strW hW h]
  have h4 : qAtom ts ex j = .ok (eLeaf ts 1 j [97] 0 [], j + 1) := by unfold qAtom; simp only [h3]
  unfold qApp
  simp only [h4]
  unfold qAppL
  rw [if_neg (by rw [begW hW h2]; decide)]
omit hW in
theorem sign_next {r : List Nat} {rest : List (List UInt8)} (hr : ∀ k, k ∈ r → k ≤ 4) (he : EndW rest[0]?) : SignW (encW r ++ rest)[0]? := by
  rcases r with _ | ⟨k, r⟩
  · exact .inl he
  · exact .inr ⟨k, hr k (by simp), rfl⟩
omit hW in
theorem drop_at {p : Nat} {l : List (List UInt8)} (h : W.drop p = l) (i : Nat) : W[p + i]? = l[i]? := by rw [← h, List.getElem?_drop]
omit hW in
theorem drop_on {p : Nat} {a b : List UInt8} {l : List (List UInt8)} (h : W.drop p = a :: b :: l) : W.drop (p + 1) = b :: l ∧ W.drop (p + 1 + 1) = l := by
  have h1 : W.drop (p + 1) = b :: l := by rw [← List.drop_drop, h]; rfl
  exact ⟨h1, by rw [← List.drop_drop, h1]; rfl⟩
/-- factors -/
theorem prodL_W {ex : Nat → QR Ex} {rest : List (List UInt8)} (he : EndW rest[0]?) : ∀ (r : List Nat) (f : Nat) (a : Ex) (l0 : List Nat) (p : Nat), Pr a l0 → W.drop p = encW r ++ rest → (∀ k, k ∈ r → k ≤ 4) → r.length < f →
    ∃ e j l r', r = l ++ r' ∧ (∀ k, k ∈ l → 2 ≤ k ∧ k < 4) ∧ (∀ k, r'[0]? = some k → k < 2 ∨ k = 4) ∧ qProdL ts ex f a p = .ok (e, j) ∧ Pr e (l0 ++ l) ∧ W.drop j = encW r' ++ rest := by
  intro r
  induction r with
  | nil =>
    intro f a l0 p ha hp hr hf
    obtain ⟨f, rfl⟩ : ∃ g, f = g + 1 := ⟨f - 1, by simp at hf; omega⟩
    refine ⟨a, p, [], [], rfl, by simp, by simp, ?_, by simpa using ha, hp⟩
    have h0 : W[p]? = rest[0]? := by have := drop_at hp 0; simpa [encW] using this
    unfold qProdL
    simp only [atW hW, h0]
    rcases he with h | h | h <;> rw [h] <;> simp [kdW]
  | cons k r ih =>
    intro f a l0 p ha hp hr hf
    obtain ⟨f, rfl⟩ : ∃ g, f = g + 1 := ⟨f - 1, by simp at hf; omega⟩
    have hk := hr k (by simp)
    have h0 : W[p]? = some (sgn k) := by have := drop_at hp 0; simpa [encW_cons] using this
    have h1 : W[p + 1]? = some [97] := by have := drop_at hp 1; simpa [encW_cons] using this
    rw [encW_cons] at hp
    obtain ⟨hd1, hd2⟩ := drop_on hp
    have h2 : SignW W[p + 1 + 1]? := by have := drop_at hd2 0; rw [Nat.add_zero] at this; rw [this]; exact sign_next (fun z hz => hr z (by simp [hz])) he
    have happ := appW hW (ex := ex) h1 h2
    have hpn : Pr (eLeaf ts 1 (p + 1) [97] 0 []) [] := .nil
    have go : ∀ op : Int, op = (k : Int) + 1 → 2 ≤ k → k < 4 → qProdL ts ex (f + 1) a p = qProdL ts ex f (eTwo 16 op a (eLeaf ts 1 (p + 1) [97] 0 [])) (p + 1 + 1) →
        ∃ e j l r', k :: r = l ++ r' ∧ (∀ k, k ∈ l → 2 ≤ k ∧ k < 4) ∧ (∀ k, r'[0]? = some k → k < 2 ∨ k = 4) ∧ qProdL ts ex (f + 1) a p = .ok (e, j) ∧ Pr e (l0 ++ l) ∧ W.drop j = encW r' ++ rest := fun op hop hk2 hk4 heq => by
      obtain ⟨e, j, l, r', g1, g2, g3, g4, g5, g6⟩ := ih f (eTwo 16 op a (eLeaf ts 1 (p + 1) [97] 0 [])) (l0 ++ [k]) (p + 1 + 1) (.snoc hop ha hpn) hd2 (fun z hz => hr z (by simp [hz])) (by simp at hf; omega)
      refine ⟨e, j, k :: l, r', by rw [g1]; rfl, ?_, g3, heq.trans g4, by simpa using g5, g6⟩
      intro z hz
      rcases List.mem_cons.1 hz with rfl | hz
      · exact ⟨hk2, hk4⟩
      · exact g2 z hz
    have stop : k < 2 ∨ k = 4 → ∃ e j l r', k :: r = l ++ r' ∧ (∀ k, k ∈ l → 2 ≤ k ∧ k < 4) ∧ (∀ k, r'[0]? = some k → k < 2 ∨ k = 4) ∧ qProdL ts ex (f + 1) a p = .ok (e, j) ∧ Pr e (l0 ++ l) ∧ W.drop j = encW r' ++ rest := fun hs => by
      refine ⟨a, p, [], k :: r, rfl, by simp, fun z hz => by simp at hz; rw [← hz]; exact hs, ?_, by simpa using ha, by rw [encW_cons]; exact hp⟩
      unfold qProdL
      simp only [atW hW, h0]
      rcases sgn_cases hk with rfl | rfl | rfl | rfl | rfl <;> first | (exfalso; omega) | simp [kdW, sgn]
    rcases sgn_cases hk with rfl | rfl | rfl | rfl | rfl
    · exact stop (by omega)
    · exact stop (by omega)
    · refine go 3 (by decide) (by omega) (by omega) ?_
      conv => lhs; unfold qProdL
      simp only [atW hW, h0, happ]
      simp [kdW, sgn]
    · refine go 4 (by decide) (by omega) (by omega) ?_
      conv => lhs; unfold qProdL
      simp only [atW hW, h0, happ]
      simp [kdW, sgn]
    · exact stop (by omega)
/-- one product -/
theorem prod_W {ex : Nat → QR Ex} {r : List Nat} {rest : List (List UInt8)} {p : Nat} (he : EndW rest[0]?) (hp : W.drop p = [97] :: (encW r ++ rest)) (hr : ∀ k, k ∈ r → k ≤ 4) (hl : r.length < ts.length + 1) :
    ∃ e j l r', r = l ++ r' ∧ (∀ k, k ∈ l → 2 ≤ k ∧ k < 4) ∧ (∀ k, r'[0]? = some k → k < 2 ∨ k = 4) ∧ qProd ts ex p = .ok (e, j) ∧ Pr e l ∧ W.drop j = encW r' ++ rest := by
  have h0 : W[p]? = some [97] := by have := drop_at hp 0; simpa using this
  have hd : W.drop (p + 1) = encW r ++ rest := by rw [← List.drop_drop, hp]; rfl
  have h2 : SignW W[p + 1]? := by have := drop_at hd 0; rw [Nat.add_zero] at this; rw [this]; exact sign_next hr he
  obtain ⟨e, j, l, r', g1, g2, g3, g4, g5, g6⟩ := prodL_W hW (ex := ex) he r (ts.length + 1) (eLeaf ts 1 p [97] 0 []) [] (p + 1) .nil hd hr hl
  refine ⟨e, j, l, r', g1, g2, g3, ?_, by simpa using g5, g6⟩
  unfold qProd
  simp only [appW hW (ex := ex) h0 h2]
  exact g4
/-- terms -/
theorem sumL_W {ex : Nat → QR Ex} {rest : List (List UInt8)} (he : EndW rest[0]?) : ∀ (f : Nat) (r : List Nat) (a : Ex) (l0 : List Nat) (p : Nat), Su a l0 → (∀ k, k ∈ l0 → k < 4) → W.drop p = encW r ++ rest → (∀ k, k ∈ r → k ≤ 4) → (∀ k, r[0]? = some k → k < 2 ∨ k = 4) → r.length < f → r.length < ts.length + 1 →
    ∃ e j l r', r = l ++ r' ∧ (∀ k, r'[0]? = some k → k = 4) ∧ qSumL ts ex f a p = .ok (e, j) ∧ Su e (l0 ++ l) ∧ (∀ k, k ∈ l0 ++ l → k < 4) ∧ W.drop j = encW r' ++ rest := by
  intro f
  induction f with
  | zero => intro r a l0 p _ _ _ _ _ hf _; omega
  | succ f ih =>
    intro r a l0 p ha hl0 hp hr hs hf hlt
    have stop : (∀ k, r[0]? = some k → k = 4) → ∃ e j l r', r = l ++ r' ∧ (∀ k, r'[0]? = some k → k = 4) ∧ qSumL ts ex (f + 1) a p = .ok (e, j) ∧ Su e (l0 ++ l) ∧ (∀ k, k ∈ l0 ++ l → k < 4) ∧ W.drop j = encW r' ++ rest := fun h4 => by
      refine ⟨a, p, [], r, rfl, h4, ?_, by simpa using ha, by simpa using hl0, hp⟩
      unfold qSumL
      rcases r with _ | ⟨k, r⟩
      · have h0 : W[p]? = rest[0]? := by have := drop_at hp 0; simpa [encW] using this
        simp only [atW hW, h0]
        rcases he with h | h | h <;> rw [h] <;> simp [kdW]
      · have h0 : W[p]? = some (sgn k) := by have := drop_at hp 0; simpa [encW_cons] using this
        have hk := h4 k rfl
        subst hk
        simp only [atW hW, h0]
        simp [kdW, sgn]
    rcases r with _ | ⟨k, r⟩
    · exact stop (by simp)
    · have h0 : W[p]? = some (sgn k) := by have := drop_at hp 0; simpa [encW_cons] using this
      rcases hs k rfl with hk | hk
      · have hd : W.drop (p + 1) = [97] :: (encW r ++ rest) := by rw [← List.drop_drop, hp, encW_cons]; rfl
        obtain ⟨b, j, l, r', g1, g2, g3, g4, g5, g6⟩ := prod_W hW (ex := ex) he hd (fun z hz => hr z (by simp [hz])) (by simp at hlt; omega)
        have go : ∀ op : Int, op = (k : Int) + 1 → qSumL ts ex (f + 1) a p = qSumL ts ex f (eTwo 16 op a b) j →
            ∃ e j l r', k :: r = l ++ r' ∧ (∀ k, r'[0]? = some k → k = 4) ∧ qSumL ts ex (f + 1) a p = .ok (e, j) ∧ Su e (l0 ++ l) ∧ (∀ k, k ∈ l0 ++ l → k < 4) ∧ W.drop j = encW r' ++ rest := fun op hop heq => by
          have hlen : r.length = l.length + r'.length := by rw [g1, List.length_append]
          obtain ⟨e, j2, l2, r2, k1, k2, k3, k4, k5, k6⟩ := ih r' (eTwo 16 op a b) (l0 ++ k :: l) j (.step hk hop ha g5 (fun z hz => (g2 z hz).1)) (fun z hz => by
              rcases List.mem_append.1 hz with hz | hz
              · exact hl0 z hz
              · rcases List.mem_cons.1 hz with rfl | hz
                · omega
                · exact (g2 z hz).2) g6 (fun z hz => hr z (by rw [g1]; simp [hz])) g3 (by simp at hf; omega) (by simp at hlt; omega)
          refine ⟨e, j2, k :: l ++ l2, r2, by rw [g1, k1]; simp, k2, heq.trans k3, ?_, ?_, k6⟩
          · rw [show l0 ++ (k :: l ++ l2) = l0 ++ k :: l ++ l2 by simp]; exact k4
          · rw [show l0 ++ (k :: l ++ l2) = l0 ++ k :: l ++ l2 by simp]; exact k5
        rcases (show k = 0 ∨ k = 1 by omega) with rfl | rfl
        · refine go 1 (by decide) ?_
          conv => lhs; unfold qSumL
          simp only [atW hW, h0, g4]
          simp [kdW, sgn]
        · refine go 2 (by decide) ?_
          conv => lhs; unfold qSumL
          simp only [atW hW, h0, g4]
          simp [kdW, sgn]
      · exact stop (fun z hz => by simp at hz; omega)
/-- one sum -/
theorem sum_W {ex : Nat → QR Ex} {r : List Nat} {rest : List (List UInt8)} {p : Nat} (he : EndW rest[0]?) (hp : W.drop p = [97] :: (encW r ++ rest)) (hr : ∀ k, k ∈ r → k ≤ 4) (hl : r.length < ts.length + 1) :
    ∃ e j l r', r = l ++ r' ∧ (∀ k, r'[0]? = some k → k = 4) ∧ qSum ts ex p = .ok (e, j) ∧ Su e l ∧ (∀ k, k ∈ l → k < 4) ∧ W.drop j = encW r' ++ rest := by
  obtain ⟨b, j, l, r', g1, g2, g3, g4, g5, g6⟩ := prod_W hW (ex := ex) he hp hr hl
  have hlen : r.length = l.length + r'.length := by rw [g1, List.length_append]
  obtain ⟨e, j2, l2, r2, k1, k2, k3, k4, k5, k6⟩ := sumL_W hW (ex := ex) he (ts.length + 1) r' b l j (.base g5 (fun z hz => (g2 z hz).1)) (fun z hz => (g2 z hz).2) g6 (fun z hz => hr z (by rw [g1]; simp [hz])) g3 (by omega) (by omega)
  refine ⟨e, j2, l ++ l2, r2, by rw [g1, k1]; simp, k2, ?_, k4, k5, k6⟩
  unfold qSum
  simp only [g4]
  exact k3
/-- lists -/
theorem consF_W {ex : Nat → QR Ex} {rest : List (List UInt8)} (he : EndW rest[0]?) : ∀ (f : Nat) (r : List Nat) (p : Nat), W.drop p = [97] :: (encW r ++ rest) → (∀ k, k ∈ r → k ≤ 4) → r.length < f → r.length < ts.length + 1 →
    ∃ e j, qConsF ts ex f p = .ok (e, j) ∧ Li e r ∧ W.drop j = rest := by
  intro f
  induction f with
  | zero => intro r p _ _ hf _; omega
  | succ f ih =>
    intro r p hp hr hf hlt
    obtain ⟨a, j, l, r', g1, g2, g3, g4, g5, g6⟩ := sum_W hW (ex := ex) he hp hr hlt
    have hlen : r.length = l.length + r'.length := by rw [g1, List.length_append]
    rcases r' with _ | ⟨k, r'⟩
    · have h0 : W[j]? = rest[0]? := by have := drop_at g6 0; simpa [encW] using this
      refine ⟨a, j, ?_, ?_, by simpa [encW] using g6⟩
      · unfold qConsF
        simp only [g3, atW hW, h0]
        rcases he with h | h | h <;> rw [h] <;> simp [kdW]
      · rw [g1, List.append_nil]; exact .base g4 g5
    · have hk := g2 k rfl
      subst hk
      have h0 : W[j]? = some (sgn 4) := by have := drop_at g6 0; simpa [encW_cons] using this
      have hd : W.drop (j + 1) = [97] :: (encW r' ++ rest) := by rw [← List.drop_drop, g6, encW_cons]; rfl
      simp only [List.length_cons] at hlen
      obtain ⟨b, m, k1, k2, k3⟩ := ih r' (j + 1) hd (fun z hz => hr z (by rw [g1]; simp [hz])) (by omega) (by omega)
      refine ⟨eTwo 8 0 a b, m, ?_, ?_, k3⟩
      · unfold qConsF
        simp only [g3, atW hW, h0, k1]
        simp [kdW, sgn]
      · rw [g1]; exact .step g4 g5 k2
theorem cons_W {ex : Nat → QR Ex} {rest : List (List UInt8)} (he : EndW rest[0]?) {r : List Nat} {p : Nat} (hp : W.drop p = [97] :: (encW r ++ rest)) (hr : ∀ k, k ∈ r → k ≤ 4) :
    ∃ e j, qCons ts ex p = .ok (e, j) ∧ Li e r ∧ W.drop j = rest := by
  have hl : r.length < ts.length + 1 := by
    have h1 : (W.drop p).length = W.length - p := List.length_drop
    have h2 : r.length ≤ (encW r).length := by
      clear hp hr h1
      induction r with
      | nil => simp
      | cons k r ih => rw [encW_cons]; simp only [List.length_cons]; omega
    rw [hp, List.length_cons, List.length_append, ← lenW hW] at h1
    omega
  unfold qCons
  exact consF_W hW he (ts.length + 1) r p hp hr hl hl
/-- names with signs, a comparison, and what follows -/
theorem expr_W {f : Nat} {r : List Nat} {rest : List (List UInt8)} (hp : W = [97] :: (encW r ++ [60] :: [97] :: rest)) (he : EndW rest[0]?) (hr : ∀ k, k ∈ r → k ≤ 4) :
    ∃ x y j, qExprF ts (f + 1) 0 = .ok (eTwo 16 5 x y, j) ∧ Li x r ∧ W.drop j = rest := by
  have h0 : W[0]? = some [97] := by rw [hp]; rfl
  obtain ⟨x, j, g1, g2, g3⟩ := cons_W hW (ex := qExprF ts f) (rest := [60] :: [97] :: rest) (.inr (.inl rfl)) (p := 0) (by rw [List.drop_zero]; exact hp) hr
  have h1 : W[j]? = some [60] := by have := drop_at g3 0; simpa using this
  have hd : W.drop (j + 1) = [97] :: (encW [] ++ rest) := by rw [← List.drop_drop, g3]; rfl
  obtain ⟨y, m, k1, k2, k3⟩ := cons_W hW (ex := qExprF ts f) he hd (by simp)
  refine ⟨x, y, m, ?_, g2, k3⟩
  conv => lhs; unfold qExprF
  simp only [atW hW, h0]
  simp only [kdW, if_true, show ((1 : Nat) == 2) = false from rfl, Bool.false_and, Bool.false_eq_true, if_false]
  unfold qCmp
  simp only [g1, atW hW, h1, k1]
  simp [kdW]
end

/-! the text -/
def textW : List (List UInt8) → List UInt8
  | [] => []
  | w :: W => 32 :: (w ++ textW W)
def toksW : Nat → List (List UInt8) → List Tok
  | _, [] => []
  | off, w :: W => ⟨kdW w, off + 1, off + 1 + w.length, w, 0⟩ :: toksW (off + 1 + w.length) W
def GoodW (w : List UInt8) : Prop := w = [97] ∨ w = [60] ∨ w = [61] ∨ ∃ k, k ≤ 4 ∧ w = sgn k
theorem good_tok {w : List UInt8} (h : GoodW w) : mTok w = some (⟨kdW w, w, 0⟩, w.length) ∧ mSkip false w = w ∧ w ≠ [] := by
  rcases h with rfl | rfl | rfl | ⟨k, hk, rfl⟩
  · decide
  · decide
  · decide
  · rcases sgn_cases hk with rfl | rfl | rfl | rfl | rfl <;> decide
theorem textW_stop (W : List (List UInt8)) : Stop (textW W) := by
  cases W with
  | nil => exact stop_nil
  | cons w W => exact stop_cons (.inl (by decide))
theorem textW_scans : ∀ (W : List (List UInt8)) (off : Nat), (∀ w, w ∈ W → GoodW w) → Scans off (textW W) (toksW off W) none
  | [], off, _ => .done off [] (by simp [mSkip])
  | w :: W, off, h => by
    obtain ⟨h1, h2, h3⟩ := good_tok (h w (by simp))
    have hs : mSkip false (32 :: (w ++ textW W)) = w ++ textW W := by
      rw [show mSkip false (32 :: (w ++ textW W)) = mSkip false (w ++ textW W) by rw [mSkip]; rfl, skip_app _ _ _ (by rw [h2]; exact h3), h2]
    have hk : skLen false (32 :: (w ++ textW W)) = 1 := by unfold skLen; rw [hs, List.length_cons]; omega
    have hm : mTok (mSkip false (32 :: (w ++ textW W))) = some (⟨kdW w, w, 0⟩, w.length) := by rw [hs]; exact mTok_app h1 (textW_stop W)
    have := Scans.step off (32 :: (w ++ textW W)) ⟨kdW w, w, 0⟩ w.length (toksW (off + 1 + w.length) W) none hm (by rw [hk, hs, List.drop_left]; exact textW_scans W _ (fun x hx => h x (by simp [hx])))
    rw [hk] at this
    exact this
theorem toksW_has : ∀ (W : List (List UInt8)) (off : Nat), HasW (toksW off W) W
  | [], off, j => rfl
  | w :: W, off, 0 => rfl
  | w :: W, off, j + 1 => by
    have := toksW_has W (off + 1 + w.length) j
    rw [toksW, List.getElem?_cons_succ, List.getElem?_cons_succ]; exact this
theorem toksW_fr : ∀ (A B : List (List UInt8)) (w : List UInt8) (off : Nat), frE (toksW off (A ++ w :: B)) A.length = ((off + (textW A).length + 1 : Nat) : Int)
  | [], B, w, off => by simp [frE, toksW, textW]
  | a :: A, B, w, off => by
    have := toksW_fr A B w (off + 1 + a.length)
    rw [List.cons_append, toksW, textW]
    unfold frE at this ⊢
    rw [List.length_cons, List.getElem?_cons_succ, this]
    simp only [List.length_cons, List.length_append]
    congr 1; omega
theorem textW_app (A B : List (List UInt8)) : textW (A ++ B) = textW A ++ textW B := by
  induction A with
  | nil => rfl
  | cons a A ih => rw [List.cons_append, textW, textW, ih]; simp

/-- names with signs between -/
def opsT (r : List Nat) : List UInt8 := 97 :: textW (encW r)
theorem encW_good {r : List Nat} (hr : ∀ k, k ∈ r → k ≤ 4) {w : List UInt8} (h : w ∈ encW r) : GoodW w := by
  obtain ⟨k, hk, hw⟩ := List.mem_flatMap.1 h
  rcases List.mem_cons.1 hw with rfl | hw
  · exact .inr (.inr (.inr ⟨k, hr k hk, rfl⟩))
  · rw [List.mem_singleton] at hw; exact .inl hw
theorem opsT_len : ∀ (r : List Nat), (∀ k, k ∈ r → k ≤ 4) → (textW (encW r)).length ≤ 5 * r.length
  | [], _ => by simp [encW, textW]
  | k :: r, h => by
    have ih := opsT_len r (fun z hz => h z (by simp [hz]))
    have hs : (sgn k).length ≤ 2 := by rcases sgn_cases (h k (by simp)) with rfl | rfl | rfl | rfl | rfl <;> decide
    rw [encW_cons, textW, textW]
    simp only [List.length_cons, List.length_append, List.length_nil]
    omega
theorem opsT_snoc (r : List Nat) (k : Nat) : opsT r ++ [32] ++ sgn k ++ [32, 97] = opsT (r ++ [k]) := by
  have : encW (r ++ [k]) = encW r ++ [sgn k, [97]] := by simp [encW]
  unfold opsT
  rw [this, textW_app]
  simp [textW]
theorem a_scans (W : List (List UInt8)) (h : ∀ w, w ∈ W → GoodW w) : Scans 0 (97 :: textW W) (⟨1, 0, 1, [97], 0⟩ :: toksW 1 W) none := by
  have hs : mSkip false (97 :: textW W) = 97 :: textW W := by rw [mSkip]; rfl
  have hk : skLen false (97 :: textW W) = 0 := by unfold skLen; rw [hs]; omega
  have hm : mTok (mSkip false (97 :: textW W)) = some (⟨1, [97], 0⟩, 1) := by
    rw [hs]
    exact mTok_app (l := [97]) (by decide) (textW_stop W)
  have := Scans.step 0 (97 :: textW W) ⟨1, [97], 0⟩ 1 (toksW 1 W) none hm (by rw [hk, hs]; exact textW_scans W _ h)
  rw [hk] at this
  exact this
theorem a_has (W : List (List UInt8)) : HasW (⟨1, 0, 1, [97], 0⟩ :: toksW 1 W) ([97] :: W)
  | 0 => rfl
  | j + 1 => by rw [List.getElem?_cons_succ, List.getElem?_cons_succ]; exact toksW_has W 1 j
theorem a_scan {W : List (List UInt8)} (h : ∀ w, w ∈ W → GoodW w) (hl : (textW W).length ≤ 16000) : mScan (97 :: textW W) = .ok (⟨1, 0, 1, [97], 0⟩ :: toksW 1 W) := by
  rw [mScan_small (by rw [List.length_cons]; omega), scans_det (a_scans W h)]
  rfl
theorem ops_less {r : List Nat} (hr : ∀ k, k ∈ r → k ≤ 4) (hl : r.length ≤ 25) : ∃ x y, mParse (opsT r ++ [32, 60, 32, 97]) = .ok (eTwo 16 5 x y) ∧ Li x r := by
  have hg : ∀ w, w ∈ encW r ++ [[60], [97]] → GoodW w := fun w hw => by
    rcases List.mem_append.1 hw with hw | hw
    · exact encW_good hr hw
    · simp at hw
      rcases hw with rfl | rfl
      · exact .inr (.inl rfl)
      · exact .inl rfl
  have ht : opsT r ++ [32, 60, 32, 97] = 97 :: textW (encW r ++ [[60], [97]]) := by unfold opsT; rw [textW_app]; rfl
  have hlen := opsT_len r hr
  have hs := a_scan hg (by rw [textW_app, List.length_append]; simp only [textW, List.length_cons, List.length_append, List.length_nil]; omega)
  obtain ⟨x, y, j, h1, h2, h3⟩ := expr_W (a_has (encW r ++ [[60], [97]])) (f := (⟨1, 0, 1, [97], 0⟩ :: toksW 1 (encW r ++ [[60], [97]])).length) (r := r) (rest := []) rfl (.inl rfl) hr
  have hn := lenW (a_has (encW r ++ [[60], [97]]))
  have hok := (okO (qExprF_ok _ _ 0 (Nat.zero_le _)) h1).2
  have hd : (([97] :: (encW r ++ [[60], [97]])).drop j).length = 0 := by rw [h3]; rfl
  rw [List.length_drop] at hd
  have hj : j = (⟨1, 0, 1, [97], 0⟩ :: toksW 1 (encW r ++ [[60], [97]])).length := by omega
  refine ⟨x, y, ?_, h2⟩
  rw [ht]
  unfold mParse
  simp only [hs, h1]
  rw [if_pos hj]

theorem ops_twice {r : List Nat} (hr : ∀ k, k ∈ r → k ≤ 4) (hl : r.length ≤ 25) : mParse (opsT r ++ [32, 60, 32, 97, 32, 61, 32, 97]) = .error ((((opsT r).length + 5 : Nat) : Int), 3) := by
  have hg : ∀ w, w ∈ encW r ++ [[60], [97], [61], [97]] → GoodW w := fun w hw => by
    rcases List.mem_append.1 hw with hw | hw
    · exact encW_good hr hw
    · simp at hw
      rcases hw with rfl | rfl | rfl | rfl
      · exact .inr (.inl rfl)
      · exact .inl rfl
      · exact .inr (.inr (.inl rfl))
      · exact .inl rfl
  have ht : opsT r ++ [32, 60, 32, 97, 32, 61, 32, 97] = 97 :: textW (encW r ++ [[60], [97], [61], [97]]) := by unfold opsT; rw [textW_app]; rfl
  have hlen := opsT_len r hr
  have hs := a_scan hg (by rw [textW_app, List.length_append]; simp only [textW, List.length_cons, List.length_append, List.length_nil]; omega)
  obtain ⟨x, y, j, h1, h2, h3⟩ := expr_W (a_has (encW r ++ [[60], [97], [61], [97]])) (f := (⟨1, 0, 1, [97], 0⟩ :: toksW 1 (encW r ++ [[60], [97], [61], [97]])).length) (r := r) (rest := [[61], [97]]) rfl (.inr (.inr rfl)) hr
  have hn := lenW (a_has (encW r ++ [[60], [97], [61], [97]]))
  have hok := (okO (qExprF_ok _ _ 0 (Nat.zero_le _)) h1).2
  have hd : (([97] :: (encW r ++ [[60], [97], [61], [97]])).drop j).length = 2 := by rw [h3]; rfl
  rw [List.length_drop] at hd
  have hj : j = (encW r ++ [[60], [97]]).length + 1 := by simp only [List.length_cons, List.length_append, List.length_nil] at hd ⊢; omega
  have hf := toksW_fr (encW r ++ [[60], [97]]) [[97]] [61] 1
  have hf2 : frE (⟨1, 0, 1, [97], 0⟩ :: toksW 1 (encW r ++ [[60], [97], [61], [97]])) j = (((opsT r).length + 5 : Nat) : Int) := by
    rw [hj]
    unfold frE at hf ⊢
    rw [List.getElem?_cons_succ, show encW r ++ [[60], [97], [61], [97]] = encW r ++ [[60], [97]] ++ [61] :: [[97]] by simp, hf, textW_app, List.length_append]
    unfold opsT
    simp only [textW, List.length_cons, List.length_append, List.length_nil]
    congr 1; omega
  rw [ht]
  unfold mParse
  simp only [hs, h1]
  rw [if_neg (by omega), hf2]

end Go.Proofs.Ytkipkplpmeholaa
