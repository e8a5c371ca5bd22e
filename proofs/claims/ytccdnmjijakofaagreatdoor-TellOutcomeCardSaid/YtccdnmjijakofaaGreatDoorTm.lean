/- A type's variables, numbered anew: models. -/
import Derived.Test.YtccdnmjijakofaaGreatDoorVk3
import Derived.Test.YtccdnmjijakofaaGreatDoorSh23
namespace Go.Proofs.YtccdnmjijakofaaGreatDoor
open Go Go.RowKit
set_option linter.unusedVariables false

abbrev Seen := List (Int × Int)
def seenV (es : Seen) : List (Value × Int) := es.map fun p => (.int .i64 p.1, p.2)
def outR (es : Seen) : List (List D) := es.map fun p => [.lit (.int .i64 p.1)]
def cnt : Seen → Int → Int
  | [], _ => 0
  | p :: r, n => if p.1 = n then p.2 else cnt r n
def seenAdd : Seen → Int → Seen
  | [], n => [(n, 1)]
  | p :: r, n => if p.1 = n then (n, p.2 + 1) :: r else p :: seenAdd r n
def OkS (es : Seen) (c : Nat) : Prop := (es.map (·.1)).Nodup ∧ ∀ p, p ∈ es → 1 ≤ p.2 ∧ p.2 ≤ c
theorem map_set_same {α β : Type} {f : α → β} : ∀ {l : List α} {j : Nat} {x y : α}, l[j]? = some x → f y = f x → (l.set j y).map f = l.map f
  | [], _, _, _, h, _ => by simp at h
  | a :: l, 0, x, y, h, hf => by simp at h; subst h; simp [hf]
  | a :: l, j + 1, x, y, h, hf => by rw [List.set_cons_succ, List.map_cons, List.map_cons, map_set_same (by simpa using h) hf]
theorem seenV_key {es : Seen} : ∀ p, p ∈ seenV es → MapKept.IsKey (.int .i64) p.1 := fun p hp => by
  obtain ⟨q, _, rfl⟩ := List.mem_map.1 hp
  rfl
theorem key_inj {a b : Int} (h : (Value.int .i64 a) = .int .i64 b) : a = b := by cases h; rfl
theorem cnt_pos : ∀ {es : Seen} {c : Nat} {n : Int}, OkS es c → 0 ≤ cnt es n ∧ cnt es n ≤ c
  | [], c, n, _ => by rw [cnt]; omega
  | p :: r, c, n, h => by
    have h1 := h.2 p (by simp)
    have h2 := cnt_pos (es := r) (c := c) (n := n) ⟨by have := h.1; simp at this; exact this.2, fun q hq => h.2 q (by simp [hq])⟩
    rw [cnt]
    split <;> omega
theorem cnt_none : ∀ {es : Seen} {c : Nat} {n : Int}, OkS es c → cnt es n = 0 → ∀ p, p ∈ es → p.1 ≠ n
  | [], _, _, _, _, p, hp => by simp at hp
  | q :: r, c, n, h, h0, p, hp => by
    have h1 := h.2 q (by simp)
    rw [cnt] at h0
    split at h0
    · omega
    · rcases List.mem_cons.1 hp with rfl | hp
      · assumption
      · exact cnt_none (es := r) (c := c) ⟨by have := h.1; simp at this; exact this.2, fun q hq => h.2 q (by simp [hq])⟩ h0 p hp
theorem cnt_some : ∀ {es : Seen} {c : Nat} {n : Int}, OkS es c → cnt es n ≠ 0 → ∃ j, es[j]? = some (n, cnt es n) ∧ (∀ (i : Nat) p, es[i]? = some p → p.1 = n → i = j) ∧ seenAdd es n = es.set j (n, cnt es n + 1)
  | [], _, _, _, h0 => absurd rfl h0
  | q :: r, c, n, h, h0 => by
    have hnd := h.1
    simp only [List.map_cons, List.nodup_cons] at hnd
    by_cases hq : q.1 = n
    · have hc : cnt (q :: r) n = q.2 := by rw [cnt, if_pos hq]
      refine ⟨0, ?_, fun i p hi hp => ?_, ?_⟩
      · rw [hc, ← hq]; rfl
      · cases i with
        | zero => rfl
        | succ i =>
          have : p ∈ r := List.mem_of_getElem? (by simpa using hi)
          exact absurd (List.mem_map.2 ⟨p, this, by rw [hp, hq]⟩) hnd.1
      · rw [seenAdd, if_pos hq, hc]; rfl
    · have hc : cnt (q :: r) n = cnt r n := by rw [cnt, if_neg hq]
      rw [hc] at h0 ⊢
      obtain ⟨j, h1, h2, h3⟩ := cnt_some (es := r) (c := c) ⟨hnd.2, fun q hq => h.2 q (by simp [hq])⟩ h0
      refine ⟨j + 1, by simpa using h1, fun i p hi hp => ?_, ?_⟩
      · cases i with
        | zero => simp at hi; exact absurd (hi ▸ hp) hq
        | succ i => rw [h2 i p (by simpa using hi) hp]
      · rw [seenAdd, if_neg hq, h3]; rfl
theorem seenAdd_new : ∀ {es : Seen} {n : Int}, (∀ p, p ∈ es → p.1 ≠ n) → seenAdd es n = es ++ [(n, 1)]
  | [], n, _ => rfl
  | p :: r, n, h => by rw [seenAdd, if_neg (h p (by simp)), seenAdd_new (fun q hq => h q (by simp [hq]))]; rfl
theorem OkS.add {es : Seen} {c : Nat} {n : Int} (h : OkS es c) : OkS (seenAdd es n) (c + 1) := by
  by_cases h0 : cnt es n = 0
  · have hn := cnt_none h h0
    rw [seenAdd_new hn]
    refine ⟨?_, fun p hp => ?_⟩
    · rw [List.map_append, List.nodup_append]
      refine ⟨h.1, by simp, fun a ha b hb => ?_⟩
      obtain ⟨p, hp, rfl⟩ := List.mem_map.1 ha
      simp at hb
      rw [hb]; exact hn p hp
    · rcases List.mem_append.1 hp with hp | hp
      · have := h.2 p hp; omega
      · simp at hp; subst hp; simp only; omega
  · obtain ⟨j, h1, h2, h3⟩ := cnt_some h h0
    have hc := cnt_pos (n := n) h
    rw [h3]
    refine ⟨?_, fun p hp => ?_⟩
    · rw [map_set_same (f := fun x : Int × Int => x.1) (y := (n, cnt es n + 1)) h1 rfl]; exact h.1
    · rcases List.mem_or_eq_of_mem_set hp with hp | rfl
      · have := h.2 p hp; omega
      · simp only; omega
theorem cnt_key {es : Seen} {c : Nat} {n : Int} (h : OkS es c) : ((∀ p, p ∈ seenV es → p.1 ≠ .int .i64 n) ∧ cnt es n = 0) ∨ ((∃ p, p ∈ seenV es ∧ p.1 = .int .i64 n) ∧ ∀ p, p ∈ seenV es → p.1 = .int .i64 n → p.2 = cnt es n) := by
  by_cases h0 : cnt es n = 0
  · refine .inl ⟨fun p hp e => ?_, h0⟩
    obtain ⟨q, hq, rfl⟩ := List.mem_map.1 hp
    exact cnt_none h h0 q hq (key_inj e)
  · obtain ⟨j, h1, h2, _⟩ := cnt_some h h0
    refine .inr ⟨⟨_, List.mem_map.2 ⟨_, List.mem_of_getElem? h1, rfl⟩, rfl⟩, fun p hp e => ?_⟩
    obtain ⟨q, hq, rfl⟩ := List.mem_map.1 hp
    obtain ⟨i, hi⟩ := List.getElem?_of_mem hq
    have := h2 i q hi (key_inj e)
    subst this
    rw [h1] at hi
    cases hi; rfl
theorem cnt_no {es : Seen} {c : Nat} {n : Int} (h : OkS es c) (h0 : cnt es n = 0) : ∀ p, p ∈ seenV es → p.1 ≠ .int .i64 n := fun p hp e => by
  obtain ⟨q, hq, rfl⟩ := List.mem_map.1 hp
  exact cnt_none h h0 q hq (key_inj e)
theorem cnt_set {es : Seen} {c : Nat} {n : Int} (h : OkS es c) (h0 : cnt es n ≠ 0) : ∃ j, (∃ m, (seenV es)[j]? = some (.int .i64 n, m)) ∧ (∀ (i : Nat) p, (seenV es)[i]? = some p → p.1 = .int .i64 n → i = j) ∧ seenV (seenAdd es n) = (seenV es).set j (.int .i64 n, cnt es n + 1) ∧ outR (seenAdd es n) = outR es := by
  obtain ⟨j, h1, h2, h3⟩ := cnt_some h h0
  refine ⟨j, ⟨cnt es n, by simp [seenV, h1]⟩, fun i p hi e => ?_, by rw [h3, seenV, List.map_set]; rfl, ?_⟩
  · simp only [seenV, List.getElem?_map, Option.map_eq_some_iff] at hi
    obtain ⟨q, hq, rfl⟩ := hi
    exact h2 i q hq (key_inj e)
  · rw [h3, outR, map_set_same (f := fun p : Int × Int => [D.lit (.int .i64 p.1)]) (y := (n, cnt es n + 1)) h1 rfl]; rfl
theorem seen_new {es : Seen} {c : Nat} {n : Int} (h : OkS es c) (h0 : cnt es n = 0) : seenV (seenAdd es n) = seenV es ++ [(.int .i64 n, 1)] ∧ outR (seenAdd es n) = outR es ++ [[.lit (.int .i64 n)]] := by
  rw [seenAdd_new (cnt_none h h0)]
  simp [seenV, outR]
def tVars : Nat → Ty → Seen → Seen
  | 0, _, es => es
  | m + 1, t, es => t.kids.foldl (fun es k => tVars m k es) (if t.kind = 6 then seenAdd es t.num else es)
theorem seenAdd_len : ∀ (es : Seen) (n : Int), (seenAdd es n).length ≤ es.length + 1
  | [], _ => by simp [seenAdd]
  | p :: r, n => by rw [seenAdd]; split <;> simp; exact seenAdd_len r n
theorem Ty.sizes_cons (a : Ty) (l : List Ty) : Ty.sizes (a :: l) = a.size + Ty.sizes l := by rw [Ty.sizes]
theorem Ty.size_eq' (t : Ty) : t.size = 1 + Ty.sizes t.kids := by cases t; rw [Ty.size]; rfl
theorem tVars_ok : ∀ (m : Nat) (t : Ty) (es : Seen) (c : Nat), t.size ≤ m → OkS es c → OkS (tVars m t es) (c + t.size) ∧ (tVars m t es).length ≤ es.length + t.size
  | 0, t, _, _, h, _ => absurd t.size_pos (by omega)
  | m + 1, t, es, c, h, ho => by
    have key : ∀ (l : List Ty) (es : Seen) (c : Nat), Ty.sizes l ≤ m → OkS es c → OkS (l.foldl (fun es k => tVars m k es) es) (c + Ty.sizes l) ∧ (l.foldl (fun es k => tVars m k es) es).length ≤ es.length + Ty.sizes l := by
      intro l
      induction l with
      | nil => intro es c _ h; rw [List.foldl_nil, Ty.sizes]; exact ⟨h, Nat.le_refl _⟩
      | cons a l ih =>
        intro es c hs h
        rw [Ty.sizes_cons] at hs ⊢
        have h1 := tVars_ok m a es c (by omega) h
        have h2 := ih (tVars m a es) (c + a.size) (by omega) h1.1
        rw [List.foldl_cons]
        refine ⟨by rw [← Nat.add_assoc]; exact h2.1, by omega⟩
    rw [t.size_eq'] at h ⊢
    rw [tVars]
    split
    · have h1 := key t.kids (seenAdd es t.num) (c + 1) (by omega) ho.add
      have h2 := seenAdd_len es t.num
      refine ⟨by rw [← Nat.add_assoc]; exact h1.1, by omega⟩
    · have h1 := key t.kids es (c + 1) (by omega) ⟨ho.1, fun p hp => by have := ho.2 p hp; omega⟩
      refine ⟨by rw [← Nat.add_assoc]; exact h1.1, by omega⟩
theorem OkS.le {es : Seen} {c d : Nat} (h : OkS es c) (hd : c ≤ d) : OkS es d := ⟨h.1, fun p hp => by have := h.2 p hp; omega⟩
theorem seenAdd_mem : ∀ {es : Seen} {n : Int} {p : Int × Int}, p ∈ seenAdd es n → p.1 = n ∨ ∃ q, q ∈ es ∧ q.1 = p.1
  | [], n, p, h => by simp [seenAdd] at h; subst h; exact .inl rfl
  | q :: r, n, p, h => by
    rw [seenAdd] at h
    split at h
    · rcases List.mem_cons.1 h with rfl | h
      · exact .inl rfl
      · exact .inr ⟨p, by simp [h], rfl⟩
    · rcases List.mem_cons.1 h with rfl | h
      · exact .inr ⟨p, by simp, rfl⟩
      · rcases seenAdd_mem h with h | ⟨z, h1, h2⟩
        · exact .inl h
        · exact .inr ⟨z, by simp [h1], h2⟩
/-- right types have numbers as they may be -/
theorem mRight_num {t : Ty} (h : mRight t = true) : 0 ≤ t.num ∧ t.num ≤ 1048576 := by
  rw [mRight_eq] at h
  simp only [Bool.and_eq_true, decide_eq_true_eq] at h
  exact ⟨h.1.1.1.2, h.1.1.2⟩
theorem mRights_mem : ∀ {l : List Ty}, mRights l = true → ∀ x, x ∈ l → mRight x = true
  | [], _, x, hx => by simp at hx
  | a :: l, h, x, hx => by
    rw [mRights, Bool.and_eq_true] at h
    rcases List.mem_cons.1 hx with rfl | hx
    · exact h.1
    · exact mRights_mem h.2 x hx
theorem mRight_kids {t : Ty} (h : mRight t = true) : mRights t.kids = true := by
  rw [mRight_eq, Bool.and_eq_true] at h
  exact h.2
theorem tVars_num : ∀ (m : Nat) (t : Ty) (es : Seen), mRight t = true → (∀ p, p ∈ es → 0 ≤ p.1 ∧ p.1 ≤ 1048576) → ∀ p, p ∈ tVars m t es → 0 ≤ p.1 ∧ p.1 ≤ 1048576
  | 0, _, _, _, h => h
  | m + 1, t, es, hr, h => by
    have key : ∀ (l : List Ty) (es : Seen), (∀ x, x ∈ l → mRight x = true) → (∀ p, p ∈ es → 0 ≤ p.1 ∧ p.1 ≤ 1048576) → ∀ p, p ∈ l.foldl (fun es k => tVars m k es) es → 0 ≤ p.1 ∧ p.1 ≤ 1048576 := by
      intro l
      induction l with
      | nil => intro es _ h; exact h
      | cons a l ih => intro es hl h; exact ih _ (fun x hx => hl x (by simp [hx])) (tVars_num m a es (hl a (by simp)) h)
    rw [tVars]
    refine key _ _ (mRights_mem (mRight_kids hr)) ?_
    split
    · intro p hp
      rcases seenAdd_mem hp with e | ⟨q, hq, e⟩
      · rw [e]; exact mRight_num hr
      · rw [← e]; exact h q hq
    · exact h

-- the numbers, in order
def fstV : Nat → List Int → List (Value × Int)
  | _, [] => []
  | i, v :: r => (.int .i64 v, (i : Int)) :: fstV (i + 1) r
def ixOf : Nat → List Int → Int → Option Nat
  | _, [], _ => none
  | i, v :: r, n => if v = n then some i else ixOf (i + 1) r n
def bndR : Nat → List Int → List (List D)
  | _, [] => []
  | i, v :: r => [.lit (.int .i64 v), .lit (.int .i64 6), .lit (.int .i64 (i : Int)), .sl 3 []] :: bndR (i + 1) r
theorem fstV_key : ∀ {i : Nat} {vs : List Int}, ∀ p, p ∈ fstV i vs → MapKept.IsKey (.int .i64) p.1
  | _, [], p, h => by simp [fstV] at h
  | i, v :: r, p, h => by
    rcases List.mem_cons.1 h with rfl | h
    · rfl
    · exact fstV_key p h
theorem fstV_mem : ∀ {i : Nat} {vs : List Int} {p : Value × Int}, p ∈ fstV i vs → ∃ (j : Nat) (v : Int), vs[j]? = some v ∧ p = (.int .i64 v, ((i + j : Nat) : Int))
  | _, [], p, h => by simp [fstV] at h
  | i, v :: r, p, h => by
    rcases List.mem_cons.1 h with rfl | h
    · exact ⟨0, v, rfl, rfl⟩
    · obtain ⟨j, u, h1, h2⟩ := fstV_mem h
      exact ⟨j + 1, u, by simpa using h1, by rw [h2]; congr 2; omega⟩
theorem fstV_snoc : ∀ {i : Nat} {vs : List Int} {v : Int}, fstV i (vs ++ [v]) = fstV i vs ++ [(.int .i64 v, ((i + vs.length : Nat) : Int))]
  | i, [], v => rfl
  | i, u :: r, v => by rw [List.cons_append, fstV, fstV_snoc, fstV, List.cons_append, List.length_cons]; congr 4; omega
theorem bndR_snoc : ∀ {i : Nat} {vs : List Int} {v : Int}, bndR i (vs ++ [v]) = bndR i vs ++ [[.lit (.int .i64 v), .lit (.int .i64 6), .lit (.int .i64 ((i + vs.length : Nat) : Int)), .sl 3 []]]
  | i, [], v => rfl
  | i, u :: r, v => by rw [List.cons_append, bndR, bndR_snoc, bndR, List.cons_append, List.length_cons, show i + (r.length + 1) = i + 1 + r.length by omega]
theorem bndR_len : ∀ (i : Nat) (vs : List Int), (bndR i vs).length = vs.length
  | _, [] => rfl
  | i, u :: r => by rw [bndR, List.length_cons, List.length_cons, bndR_len]
theorem bndR_get : ∀ {i : Nat} {vs : List Int} {j : Nat} {v : Int}, vs[j]? = some v → (bndR i vs)[j]? = some [.lit (.int .i64 v), .lit (.int .i64 6), .lit (.int .i64 ((i + j : Nat) : Int)), .sl 3 []]
  | _, [], j, v, h => by simp at h
  | i, u :: r, 0, v, h => by simp at h; subst h; rfl
  | i, u :: r, j + 1, v, h => by
    rw [bndR, List.getElem?_cons_succ, show i + (j + 1) = i + 1 + j by omega]
    exact bndR_get (i := i + 1) (by simpa using h)
theorem bndR_at {vs : List Int} {j : Nat} {v : Int} (h : vs[j]? = some v) : (bndR 0 vs)[((j : Nat) : Int).toNat]? = some [.lit (.int .i64 v), .lit (.int .i64 6), .lit (.int .i64 (j : Int)), .sl 3 []] := by
  have := bndR_get (i := 0) h
  rw [Nat.zero_add] at this
  simpa using this
theorem ixOf_none : ∀ {i : Nat} {vs : List Int} {n : Int}, ixOf i vs n = none → n ∉ vs
  | _, [], _, _ => by simp
  | i, v :: r, n, h => by
    rw [ixOf] at h
    split at h
    · cases h
    · simp only [List.mem_cons, not_or]; exact ⟨fun e => ‹¬ v = n› e.symm, ixOf_none h⟩
theorem ixOf_some : ∀ {i : Nat} {vs : List Int} {n : Int} {k : Nat}, ixOf i vs n = some k → ∃ j, k = i + j ∧ vs[j]? = some n
  | _, [], _, _, h => by cases h
  | i, v :: r, n, k, h => by
    rw [ixOf] at h
    split at h
    · cases h; exact ⟨0, rfl, by simp; assumption⟩
    · obtain ⟨j, h1, h2⟩ := ixOf_some h
      exact ⟨j + 1, by omega, by simpa using h2⟩
theorem nodup_get : ∀ {vs : List Int}, vs.Nodup → ∀ {i j : Nat} {v : Int}, vs[i]? = some v → vs[j]? = some v → i = j
  | [], _, _, _, _, h, _ => by simp at h
  | a :: r, h, 0, 0, v, _, _ => rfl
  | a :: r, h, 0, j + 1, v, hi, hj => by
    simp at hi; subst hi
    exact absurd (List.mem_of_getElem? (by simpa using hj)) (List.nodup_cons.1 h).1
  | a :: r, h, i + 1, 0, v, hi, hj => by
    simp at hj; subst hj
    exact absurd (List.mem_of_getElem? (by simpa using hi)) (List.nodup_cons.1 h).1
  | a :: r, h, i + 1, j + 1, v, hi, hj => by
    exact congrArg (· + 1) (nodup_get (List.nodup_cons.1 h).2 (by simpa using hi) (by simpa using hj))
theorem fst_spec {vs : List Int} (hnd : vs.Nodup) (n : Int) : ∃ (k : Int) (b : Bool), (((∀ p, p ∈ fstV 0 vs → p.1 ≠ .int .i64 n) ∧ k = 0 ∧ b = false) ∨ ((∃ p, p ∈ fstV 0 vs ∧ p.1 = .int .i64 n) ∧ (∀ p, p ∈ fstV 0 vs → p.1 = .int .i64 n → p.2 = k) ∧ b = true)) ∧
    (b = true → ∃ i : Nat, k = (i : Int) ∧ ixOf 0 vs n = some i ∧ vs[i]? = some n ∧ i < vs.length) ∧ (b = false → ixOf 0 vs n = none) := by
  cases h : ixOf 0 vs n with
  | none =>
    refine ⟨0, false, .inl ⟨fun p hp e => ?_, rfl, rfl⟩, (fun h => by cases h), fun _ => rfl⟩
    obtain ⟨j, v, h1, rfl⟩ := fstV_mem hp
    have := key_inj e
    subst this
    exact ixOf_none h (List.mem_of_getElem? h1)
  | some k =>
    obtain ⟨j, rfl, hj⟩ := ixOf_some h
    rw [Nat.zero_add] at h
    have hmem : ∀ {i0 : Nat} {vs : List Int} {j : Nat}, vs[j]? = some n → (Value.int .i64 n, ((i0 + j : Nat) : Int)) ∈ fstV i0 vs := by
      intro i0 vs
      induction vs generalizing i0 with
      | nil => intro j h; simp at h
      | cons v r ih =>
        intro j h
        cases j with
        | zero => simp at h; subst h; rw [fstV]; exact List.mem_cons_self ..
        | succ j => rw [fstV, show i0 + (j + 1) = i0 + 1 + j by omega]; exact List.mem_cons_of_mem _ (ih (by simpa using h))
    refine ⟨((0 + j : Nat) : Int), true, .inr ⟨⟨_, hmem hj, rfl⟩, fun p hp e => ?_, rfl⟩, fun _ => ⟨j, by rw [Nat.zero_add], by rw [Nat.zero_add], hj, (List.getElem?_eq_some_iff.1 hj).1⟩, (fun h => by cases h)⟩
    obtain ⟨i, v, h1, rfl⟩ := fstV_mem hp
    have := key_inj e
    subst this
    rw [nodup_get hnd h1 hj]
theorem fst_no {vs : List Int} {n : Int} (h : n ∉ vs) : ∀ p, p ∈ fstV 0 vs → p.1 ≠ .int .i64 n := fun p hp e => by
  obtain ⟨j, v, h1, rfl⟩ := fstV_mem hp
  have := key_inj e
  subst this
  exact h (List.mem_of_getElem? h1)
def cPut : Nat → List Int → Ty → Ty
  | 0, _, t => t
  | m + 1, vs, t => if t.kind = 6 then (match ixOf 0 vs t.num with | some i => .mk 6 (i : Int) [] | none => t) else if t.kids.length = 0 then t else .mk t.kind 0 (t.kids.map (cPut m vs))
theorem cPut_size : ∀ (m : Nat) (vs : List Int) (t : Ty), (cPut m vs t).size ≤ t.size
  | 0, _, _ => Nat.le_refl _
  | m + 1, vs, t => by
    rw [cPut]
    split
    · split
      · rw [Ty.size, Ty.sizes]; have := t.size_pos; omega
      · exact Nat.le_refl _
    · split
      · exact Nat.le_refl _
      · have key : ∀ l : List Ty, Ty.sizes (l.map (cPut m vs)) ≤ Ty.sizes l := by
          intro l
          induction l with
          | nil => exact Nat.le_refl _
          | cons a l ih => rw [List.map_cons, Ty.sizes_cons, Ty.sizes_cons]; have := cPut_size m vs a; omega
        rw [Ty.size, t.size_eq']
        have := key t.kids
        omega
def varsOf (t : Ty) : List Int := (tVars t.size t []).map (·.1)
def canon (t : Ty) : Ty := cPut t.size (varsOf t) t
def tyT (t : Ty) : List UInt8 := if mRight t then (if mRight (canon t) then mTxt (canon t) else []) else []
theorem canon_size (t : Ty) : (canon t).size ≤ t.size := cPut_size _ _ _
theorem varsOf_ok (t : Ty) : (varsOf t).Nodup ∧ (varsOf t).length ≤ t.size := by
  have := tVars_ok t.size t [] 0 (Nat.le_refl _) ⟨by simp, by simp⟩
  exact ⟨this.1.1, by rw [varsOf, List.length_map]; simpa using this.2⟩
theorem varsOf_num {t : Ty} (h : mRight t = true) : ∀ v, v ∈ varsOf t → 0 ≤ v ∧ v ≤ 1048576 := fun v hv => by
  obtain ⟨p, hp, rfl⟩ := List.mem_map.1 hv
  exact tVars_num t.size t [] h (by simp) p hp
end Go.Proofs.YtccdnmjijakofaaGreatDoor
