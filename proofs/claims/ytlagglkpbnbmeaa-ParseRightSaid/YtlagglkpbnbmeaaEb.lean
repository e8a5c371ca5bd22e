/- The plain model of layer 6: rows of what is read are not longer than the tokens. -/
import Derived.Test.YtlagglkpbnbmeaaEk
import Derived.Test.YtlagglkpbnbmeaaTz
import Derived.Test.YtlagglkpbnbmeaaEp3
namespace Go.Proofs.Ytlagglkpbnbmeaa
set_option linter.unusedVariables false
set_option linter.unusedSectionVars false

inductive PaB (n : Nat) : Pa → Prop
  | mk {k a b : Int} {nm : List UInt8} {m : Int} {s : List UInt8} {kids : List Pa} : kids.length ≤ n → (∀ p, p ∈ kids → PaB n p) → PaB n (.mk k a b nm m s kids)
inductive ExB (n : Nat) : Ex → Prop
  | mk {k a b : Int} {nm arg : List UInt8} {m : Int} {s : List UInt8} {op : Int} {A B : Ty} {pats : List Pa} {kids : List Ex} : A.size ≤ n → B.size ≤ n → pats.length ≤ n → kids.length ≤ n → (∀ p, p ∈ pats → PaB n p) → (∀ e, e ∈ kids → ExB n e) → ExB n (.mk k a b nm arg m s op A B pats kids)
def QB {α : Type} (P : α → Prop) : QR α → Prop
  | .error _ => True
  | .ok (a, _) => P a
theorem qbOk {α : Type} {P : α → Prop} {x : QR α} {a : α} {j : Nat} (k : QB P x) (h : x = .ok (a, j)) : P a := by subst h; exact k
theorem none_mem {α : Type} {P : α → Prop} : ∀ x : α, x ∈ ([] : List α) → P x := fun _ h => by simp at h
theorem mem1 {α : Type} {P : α → Prop} {a : α} (ha : P a) : ∀ x : α, x ∈ [a] → P x := fun x h => by simp at h; rw [h]; exact ha
theorem mem2 {α : Type} {P : α → Prop} {a b : α} (ha : P a) (hb : P b) : ∀ x : α, x ∈ [a, b] → P x := fun x h => by
  simp at h; rcases h with rfl | rfl
  · exact ha
  · exact hb
theorem memS {α : Type} {P : α → Prop} {l : List α} {b : α} (ha : ∀ x, x ∈ l → P x) (hb : P b) : ∀ x : α, x ∈ l ++ [b] → P x := fun x h => by
  rcases List.mem_append.1 h with h | h
  · exact ha x h
  · simp at h; rw [h]; exact hb
section
variable {n : Nat} (hn : 3 ≤ n)
include hn
theorem noTy_sz : noTy.size ≤ n := by show Ty.size (.mk 0 0 []) ≤ n; rw [Ty.size, Ty.sizes]; omega
theorem ex0 {k a b : Int} {nm arg : List UInt8} {m : Int} {s : List UInt8} {op : Int} : ExB n (.mk k a b nm arg m s op noTy noTy [] []) :=
  .mk (noTy_sz hn) (noTy_sz hn) (Nat.zero_le _) (Nat.zero_le _) none_mem none_mem
theorem ex1 {k a b : Int} {nm arg : List UInt8} {m : Int} {s : List UInt8} {op : Int} {A : Ty} {x : Ex} (hA : A.size ≤ n) (hx : ExB n x) : ExB n (.mk k a b nm arg m s op A noTy [] [x]) :=
  .mk hA (noTy_sz hn) (Nat.zero_le _) (by simp; omega) none_mem (mem1 hx)
theorem ex2 {k a b : Int} {nm arg : List UInt8} {m : Int} {s : List UInt8} {op : Int} {A B : Ty} {x y : Ex} (hA : A.size ≤ n) (hB : B.size ≤ n) (hx : ExB n x) (hy : ExB n y) : ExB n (.mk k a b nm arg m s op A B [] [x, y]) :=
  .mk hA hB (Nat.zero_le _) (by simp; omega) none_mem (mem2 hx hy)
theorem pa0 {k a b : Int} {nm : List UInt8} {m : Int} {s : List UInt8} : PaB n (.mk k a b nm m s []) := .mk (Nat.zero_le _) none_mem
theorem pa2 {k a b : Int} {nm : List UInt8} {m : Int} {s : List UInt8} {x y : Pa} (hx : PaB n x) (hy : PaB n y) : PaB n (.mk k a b nm m s [x, y]) := .mk (by simp; omega) (mem2 hx hy)
theorem two_b {k op : Int} {a b : Ex} (ha : ExB n a) (hb : ExB n b) : ExB n (eTwo k op a b) := ex2 hn (noTy_sz hn) (noTy_sz hn) ha hb
end

section
variable (ts : List Tok) {n : Nat} (hn : ts.length + 3 ≤ n)
include hn
theorem qTyp_b (i : Nat) : QB (fun t => t.size ≤ n) (qTyp ts i) := by
  have := mRead_size ts i
  unfold qTyp
  split
  · show (mRead ts i).1.size ≤ n; omega
  · trivial
theorem qMaybe_b (i : Nat) : QB (fun t => t.size ≤ n) (qMaybe ts i) := by
  unfold qMaybe
  split
  · exact qTyp_b ts hn _
  · exact noTy_sz (by omega)
theorem qParam_b (i : Nat) : QB (fun p => p.2.size ≤ n) (qParam ts i) := by
  unfold qParam
  rcases h1 : at? ts i 5 [40] with _ | _
  · simp only [Bool.false_eq_true, if_false]
    rcases h2 : qName ts i with e | ⟨s, j⟩
    · trivial
    · have _ := qbOk ((by rcases qName ts i with _ | ⟨_, _⟩ <;> trivial : QB (fun _ => True) _)) h2
      try simp only
      exact noTy_sz (by omega)
  · simp only [if_true]
    rcases h3 : qName ts (i + 1) with e | ⟨s, j⟩
    · trivial
    · have _ := qbOk ((by rcases qName ts (i + 1) with _ | ⟨_, _⟩ <;> trivial : QB (fun _ => True) _)) h3
      try simp only
      rcases h4 : at? ts j 5 [58] with _ | _
      · simp only [Bool.false_eq_true, if_false]
        first | trivial | assumption | exact ex0 (by omega) | exact two_b (by omega) (by assumption) (by assumption) | exact ex1 (by omega) (by first | assumption | exact noTy_sz (by omega)) (by assumption) | exact ex2 (by omega) (by first | assumption | exact noTy_sz (by omega)) (by first | assumption | exact noTy_sz (by omega)) (by assumption) (by assumption) | exact pa0 (by omega) | exact pa2 (by omega) (by assumption) (by assumption)
      · simp only [if_true]
        rcases h5 : qTyp ts (j + 1) with e | ⟨t, k⟩
        · trivial
        · have b1 := qbOk (qTyp_b ts hn (j + 1)) h5
          try simp only
          rcases h6 : at? ts k 5 [41] with _ | _
          · simp only [Bool.false_eq_true, if_false]
            first | trivial | assumption | exact ex0 (by omega) | exact two_b (by omega) (by assumption) (by assumption) | exact ex1 (by omega) (by first | assumption | exact noTy_sz (by omega)) (by assumption) | exact ex2 (by omega) (by first | assumption | exact noTy_sz (by omega)) (by first | assumption | exact noTy_sz (by omega)) (by assumption) (by assumption) | exact pa0 (by omega) | exact pa2 (by omega) (by assumption) (by assumption)
          · simp only [if_true]
            first | trivial | assumption | exact ex0 (by omega) | exact two_b (by omega) (by assumption) (by assumption) | exact ex1 (by omega) (by first | assumption | exact noTy_sz (by omega)) (by assumption) | exact ex2 (by omega) (by first | assumption | exact noTy_sz (by omega)) (by first | assumption | exact noTy_sz (by omega)) (by assumption) (by assumption) | exact pa0 (by omega) | exact pa2 (by omega) (by assumption) (by assumption)
theorem qRing_b {pat : List (List UInt8) → Nat → QR (Pa × List (List UInt8))} (hp : ∀ seen j, QB (fun p => PaB n p.1) (pat seen j)) (seen : List (List UInt8)) (i : Nat) : QB (fun p => PaB n p.1) (qRing ts pat seen i) := by
  unfold qRing
  rcases h7 : at? ts (i + 1) 5 [41] with _ | _
  · simp only [Bool.false_eq_true, if_false]
    rcases h8 : pat seen (i + 1) with e | ⟨⟨a, seen1⟩, j⟩
    · trivial
    · have b1 := qbOk (hp seen (i + 1)) h8
      try simp only
      rcases h9 : at? ts j 5 [41] with _ | _
      · simp only [Bool.false_eq_true, if_false]
        rcases h10 : at? ts j 5 [44] with _ | _
        · simp only [Bool.false_eq_true, if_false]
          first | trivial | assumption | exact ex0 (by omega) | exact two_b (by omega) (by assumption) (by assumption) | exact ex1 (by omega) (by first | assumption | exact noTy_sz (by omega)) (by assumption) | exact ex2 (by omega) (by first | assumption | exact noTy_sz (by omega)) (by first | assumption | exact noTy_sz (by omega)) (by assumption) (by assumption) | exact pa0 (by omega) | exact pa2 (by omega) (by assumption) (by assumption)
        · simp only [if_true]
          rcases h11 : pat seen1 (j + 1) with e | ⟨⟨b, seen2⟩, k⟩
          · trivial
          · have b2 := qbOk (hp seen1 (j + 1)) h11
            try simp only
            rcases h12 : at? ts k 5 [41] with _ | _
            · simp only [Bool.false_eq_true, if_false]
              first | trivial | assumption | exact ex0 (by omega) | exact two_b (by omega) (by assumption) (by assumption) | exact ex1 (by omega) (by first | assumption | exact noTy_sz (by omega)) (by assumption) | exact ex2 (by omega) (by first | assumption | exact noTy_sz (by omega)) (by first | assumption | exact noTy_sz (by omega)) (by assumption) (by assumption) | exact pa0 (by omega) | exact pa2 (by omega) (by assumption) (by assumption)
            · simp only [if_true]
              first | trivial | assumption | exact ex0 (by omega) | exact two_b (by omega) (by assumption) (by assumption) | exact ex1 (by omega) (by first | assumption | exact noTy_sz (by omega)) (by assumption) | exact ex2 (by omega) (by first | assumption | exact noTy_sz (by omega)) (by first | assumption | exact noTy_sz (by omega)) (by assumption) (by assumption) | exact pa0 (by omega) | exact pa2 (by omega) (by assumption) (by assumption)
      · simp only [if_true]
        first | trivial | assumption | exact ex0 (by omega) | exact two_b (by omega) (by assumption) (by assumption) | exact ex1 (by omega) (by first | assumption | exact noTy_sz (by omega)) (by assumption) | exact ex2 (by omega) (by first | assumption | exact noTy_sz (by omega)) (by first | assumption | exact noTy_sz (by omega)) (by assumption) (by assumption) | exact pa0 (by omega) | exact pa2 (by omega) (by assumption) (by assumption)
  · simp only [if_true]
    first | trivial | assumption | exact ex0 (by omega) | exact two_b (by omega) (by assumption) (by assumption) | exact ex1 (by omega) (by first | assumption | exact noTy_sz (by omega)) (by assumption) | exact ex2 (by omega) (by first | assumption | exact noTy_sz (by omega)) (by first | assumption | exact noTy_sz (by omega)) (by assumption) (by assumption) | exact pa0 (by omega) | exact pa2 (by omega) (by assumption) (by assumption)
theorem qRound_b {pat : List (List UInt8) → Nat → QR (Pa × List (List UInt8))} (hp : ∀ seen j, QB (fun p => PaB n p.1) (pat seen j)) (seen : List (List UInt8)) (i : Nat) : QB (fun p => PaB n p.1) (qRound ts pat seen i) := by
  unfold qRound
  rcases h13 : at? ts i 5 [91] with _ | _
  · simp only [Bool.false_eq_true, if_false]
    exact qRing_b ts hn hp seen i
  · simp only [if_true]
    rcases h14 : at? ts (i + 1) 5 [93] with _ | _
    · simp only [Bool.false_eq_true, if_false]
      first | trivial | assumption | exact ex0 (by omega) | exact two_b (by omega) (by assumption) (by assumption) | exact ex1 (by omega) (by first | assumption | exact noTy_sz (by omega)) (by assumption) | exact ex2 (by omega) (by first | assumption | exact noTy_sz (by omega)) (by first | assumption | exact noTy_sz (by omega)) (by assumption) (by assumption) | exact pa0 (by omega) | exact pa2 (by omega) (by assumption) (by assumption)
    · simp only [if_true]
      first | trivial | assumption | exact ex0 (by omega) | exact two_b (by omega) (by assumption) (by assumption) | exact ex1 (by omega) (by first | assumption | exact noTy_sz (by omega)) (by assumption) | exact ex2 (by omega) (by first | assumption | exact noTy_sz (by omega)) (by first | assumption | exact noTy_sz (by omega)) (by assumption) (by assumption) | exact pa0 (by omega) | exact pa2 (by omega) (by assumption) (by assumption)
theorem qPop_b {pat : List (List UInt8) → Nat → QR (Pa × List (List UInt8))} (hp : ∀ seen j, QB (fun p => PaB n p.1) (pat seen j)) (seen : List (List UInt8)) (i : Nat) : QB (fun p => PaB n p.1) (qPop ts pat seen i) := by
  unfold qPop
  repeat' split
  all_goals first | exact qRound_b ts hn hp seen i | trivial | exact pa0 (by omega)
theorem qPatF_b : ∀ (f : Nat) (seen : List (List UInt8)) (i : Nat), QB (fun p => PaB n p.1) (qPatF ts f seen i)
  | 0, _, _ => trivial
  | f + 1, seen, i => by
    have hp := qPatF_b f
    unfold qPatF
    rcases h15 : qPop ts (qPatF ts f) seen i with e | ⟨⟨a, seen1⟩, j⟩
    · trivial
    · have b1 := qbOk (qPop_b ts hn hp seen i) h15
      try simp only
      rcases h16 : at? ts j 5 [58, 58] with _ | _
      · simp only [Bool.false_eq_true, if_false]
        first | trivial | assumption | exact ex0 (by omega) | exact two_b (by omega) (by assumption) (by assumption) | exact ex1 (by omega) (by first | assumption | exact noTy_sz (by omega)) (by assumption) | exact ex2 (by omega) (by first | assumption | exact noTy_sz (by omega)) (by first | assumption | exact noTy_sz (by omega)) (by assumption) (by assumption) | exact pa0 (by omega) | exact pa2 (by omega) (by assumption) (by assumption)
      · simp only [if_true]
        rcases h17 : qPatF ts f seen1 (j + 1) with e | ⟨⟨b, seen2⟩, k⟩
        · trivial
        · have b2 := qbOk (hp seen1 (j + 1)) h17
          try simp only
          first | trivial | assumption | exact ex0 (by omega) | exact two_b (by omega) (by assumption) (by assumption) | exact ex1 (by omega) (by first | assumption | exact noTy_sz (by omega)) (by assumption) | exact ex2 (by omega) (by first | assumption | exact noTy_sz (by omega)) (by first | assumption | exact noTy_sz (by omega)) (by assumption) (by assumption) | exact pa0 (by omega) | exact pa2 (by omega) (by assumption) (by assumption)
theorem qParen_b {ex : Nat → QR Ex} (he : ∀ j, QB (ExB n) (ex j)) (i : Nat) : QB (ExB n) (qParen ts ex i) := by
  unfold qParen
  rcases h18 : ex (i + 1) with e | ⟨a, j⟩
  · trivial
  · have b1 := qbOk (he (i + 1)) h18
    try simp only
    rcases h19 : at? ts j 5 [41] with _ | _
    · simp only [Bool.false_eq_true, if_false]
      rcases h20 : at? ts j 5 [44] with _ | _
      · simp only [Bool.false_eq_true, if_false]
        rcases h21 : at? ts j 5 [58] with _ | _
        · simp only [Bool.false_eq_true, if_false]
          first | trivial | assumption | exact ex0 (by omega) | exact two_b (by omega) (by assumption) (by assumption) | exact ex1 (by omega) (by first | assumption | exact noTy_sz (by omega)) (by assumption) | exact ex2 (by omega) (by first | assumption | exact noTy_sz (by omega)) (by first | assumption | exact noTy_sz (by omega)) (by assumption) (by assumption) | exact pa0 (by omega) | exact pa2 (by omega) (by assumption) (by assumption)
        · simp only [if_true]
          rcases h22 : qTyp ts (j + 1) with e | ⟨t, k⟩
          · trivial
          · have b3 := qbOk (qTyp_b ts hn (j + 1)) h22
            try simp only
            rcases h23 : at? ts k 5 [41] with _ | _
            · simp only [Bool.false_eq_true, if_false]
              first | trivial | assumption | exact ex0 (by omega) | exact two_b (by omega) (by assumption) (by assumption) | exact ex1 (by omega) (by first | assumption | exact noTy_sz (by omega)) (by assumption) | exact ex2 (by omega) (by first | assumption | exact noTy_sz (by omega)) (by first | assumption | exact noTy_sz (by omega)) (by assumption) (by assumption) | exact pa0 (by omega) | exact pa2 (by omega) (by assumption) (by assumption)
            · simp only [if_true]
              first | trivial | assumption | exact ex0 (by omega) | exact two_b (by omega) (by assumption) (by assumption) | exact ex1 (by omega) (by first | assumption | exact noTy_sz (by omega)) (by assumption) | exact ex2 (by omega) (by first | assumption | exact noTy_sz (by omega)) (by first | assumption | exact noTy_sz (by omega)) (by assumption) (by assumption) | exact pa0 (by omega) | exact pa2 (by omega) (by assumption) (by assumption)
      · simp only [if_true]
        rcases h24 : ex (j + 1) with e | ⟨b, k⟩
        · trivial
        · have b2 := qbOk (he (j + 1)) h24
          try simp only
          rcases h25 : at? ts k 5 [41] with _ | _
          · simp only [Bool.false_eq_true, if_false]
            first | trivial | assumption | exact ex0 (by omega) | exact two_b (by omega) (by assumption) (by assumption) | exact ex1 (by omega) (by first | assumption | exact noTy_sz (by omega)) (by assumption) | exact ex2 (by omega) (by first | assumption | exact noTy_sz (by omega)) (by first | assumption | exact noTy_sz (by omega)) (by assumption) (by assumption) | exact pa0 (by omega) | exact pa2 (by omega) (by assumption) (by assumption)
          · simp only [if_true]
            first | trivial | assumption | exact ex0 (by omega) | exact two_b (by omega) (by assumption) (by assumption) | exact ex1 (by omega) (by first | assumption | exact noTy_sz (by omega)) (by assumption) | exact ex2 (by omega) (by first | assumption | exact noTy_sz (by omega)) (by first | assumption | exact noTy_sz (by omega)) (by assumption) (by assumption) | exact pa0 (by omega) | exact pa2 (by omega) (by assumption) (by assumption)
    · simp only [if_true]
      first | trivial | assumption | exact ex0 (by omega) | exact two_b (by omega) (by assumption) (by assumption) | exact ex1 (by omega) (by first | assumption | exact noTy_sz (by omega)) (by assumption) | exact ex2 (by omega) (by first | assumption | exact noTy_sz (by omega)) (by first | assumption | exact noTy_sz (by omega)) (by assumption) (by assumption) | exact pa0 (by omega) | exact pa2 (by omega) (by assumption) (by assumption)
theorem qRnd_b {ex : Nat → QR Ex} (he : ∀ j, QB (ExB n) (ex j)) (i : Nat) : QB (ExB n) (qRnd ts ex i) := by
  unfold qRnd
  rcases h26 : at? ts (i + 1) 5 [41] with _ | _
  · simp only [Bool.false_eq_true, if_false]
    exact qParen_b ts hn he i
  · simp only [if_true]
    first | trivial | assumption | exact ex0 (by omega) | exact two_b (by omega) (by assumption) (by assumption) | exact ex1 (by omega) (by first | assumption | exact noTy_sz (by omega)) (by assumption) | exact ex2 (by omega) (by first | assumption | exact noTy_sz (by omega)) (by first | assumption | exact noTy_sz (by omega)) (by assumption) (by assumption) | exact pa0 (by omega) | exact pa2 (by omega) (by assumption) (by assumption)
theorem qLeaf_b (i : Nat) : QB (ExB n) (qLeaf ts i) := by
  unfold qLeaf
  repeat' split
  all_goals first | trivial | exact ex0 (by omega)
theorem qAtom_b {ex : Nat → QR Ex} (he : ∀ j, QB (ExB n) (ex j)) (i : Nat) : QB (ExB n) (qAtom ts ex i) := by
  have k := qLeaf_b ts hn i
  unfold qAtom
  rcases hl : qLeaf ts i with e | p
  · simp only
    repeat' split
    all_goals first | trivial | exact ex0 (by omega) | exact qRnd_b ts hn he i
  · rw [hl] at k
    exact k
theorem qAppL_b {ex : Nat → QR Ex} (he : ∀ j, QB (ExB n) (ex j)) : ∀ (f : Nat) (a : Ex) (i : Nat), ExB n a → QB (ExB n) (qAppL ts ex f a i)
  | 0, _, i, _ => trivial
  | f + 1, a, i, ha => by
    unfold qAppL
    rcases h27 : eBegins ts i with _ | _
    · simp only [Bool.false_eq_true, if_false]
      first | trivial | assumption | exact ex0 (by omega) | exact two_b (by omega) (by assumption) (by assumption) | exact ex1 (by omega) (by first | assumption | exact noTy_sz (by omega)) (by assumption) | exact ex2 (by omega) (by first | assumption | exact noTy_sz (by omega)) (by first | assumption | exact noTy_sz (by omega)) (by assumption) (by assumption) | exact pa0 (by omega) | exact pa2 (by omega) (by assumption) (by assumption)
    · simp only [if_true]
      rcases h28 : qAtom ts ex i with e | ⟨b, j⟩
      · trivial
      · have b1 := qbOk (qAtom_b ts hn he i) h28
        try simp only
        exact qAppL_b he f _ j (two_b (by omega) ha b1)
theorem qApp_b {ex : Nat → QR Ex} (he : ∀ j, QB (ExB n) (ex j)) (i : Nat) : QB (ExB n) (qApp ts ex i) := by
  unfold qApp
  rcases h29 : qAtom ts ex i with e | ⟨a, j⟩
  · trivial
  · have b1 := qbOk (qAtom_b ts hn he i) h29
    try simp only
    exact qAppL_b ts hn he _ _ j b1
theorem qProdL_b {ex : Nat → QR Ex} (he : ∀ j, QB (ExB n) (ex j)) : ∀ (f : Nat) (a : Ex) (i : Nat), ExB n a → QB (ExB n) (qProdL ts ex f a i)
  | 0, _, i, _ => trivial
  | f + 1, a, i, ha => by
    unfold qProdL
    rcases h30 : at? ts i 5 [42] with _ | _
    · simp only [Bool.false_eq_true, if_false]
      rcases h31 : at? ts i 5 [47] with _ | _
      · simp only [Bool.false_eq_true, if_false]
        first | trivial | assumption | exact ex0 (by omega) | exact two_b (by omega) (by assumption) (by assumption) | exact ex1 (by omega) (by first | assumption | exact noTy_sz (by omega)) (by assumption) | exact ex2 (by omega) (by first | assumption | exact noTy_sz (by omega)) (by first | assumption | exact noTy_sz (by omega)) (by assumption) (by assumption) | exact pa0 (by omega) | exact pa2 (by omega) (by assumption) (by assumption)
      · simp only [if_true]
        rcases h32 : qApp ts ex (i + 1) with e | ⟨b, j⟩
        · trivial
        · have b1 := qbOk (qApp_b ts hn he (i + 1)) h32
          try simp only
          exact qProdL_b he f _ j (two_b (by omega) ha b1)
    · simp only [if_true]
      rcases h33 : qApp ts ex (i + 1) with e | ⟨b, j⟩
      · trivial
      · have b1 := qbOk (qApp_b ts hn he (i + 1)) h33
        try simp only
        exact qProdL_b he f _ j (two_b (by omega) ha b1)
theorem qProd_b {ex : Nat → QR Ex} (he : ∀ j, QB (ExB n) (ex j)) (i : Nat) : QB (ExB n) (qProd ts ex i) := by
  unfold qProd
  rcases h34 : qApp ts ex i with e | ⟨a, j⟩
  · trivial
  · have b1 := qbOk (qApp_b ts hn he i) h34
    try simp only
    exact qProdL_b ts hn he _ _ j b1
theorem qSumL_b {ex : Nat → QR Ex} (he : ∀ j, QB (ExB n) (ex j)) : ∀ (f : Nat) (a : Ex) (i : Nat), ExB n a → QB (ExB n) (qSumL ts ex f a i)
  | 0, _, i, _ => trivial
  | f + 1, a, i, ha => by
    unfold qSumL
    rcases h35 : at? ts i 5 [43] with _ | _
    · simp only [Bool.false_eq_true, if_false]
      rcases h36 : at? ts i 5 [45] with _ | _
      · simp only [Bool.false_eq_true, if_false]
        first | trivial | assumption | exact ex0 (by omega) | exact two_b (by omega) (by assumption) (by assumption) | exact ex1 (by omega) (by first | assumption | exact noTy_sz (by omega)) (by assumption) | exact ex2 (by omega) (by first | assumption | exact noTy_sz (by omega)) (by first | assumption | exact noTy_sz (by omega)) (by assumption) (by assumption) | exact pa0 (by omega) | exact pa2 (by omega) (by assumption) (by assumption)
      · simp only [if_true]
        rcases h37 : qProd ts ex (i + 1) with e | ⟨b, j⟩
        · trivial
        · have b1 := qbOk (qProd_b ts hn he (i + 1)) h37
          try simp only
          exact qSumL_b he f _ j (two_b (by omega) ha b1)
    · simp only [if_true]
      rcases h38 : qProd ts ex (i + 1) with e | ⟨b, j⟩
      · trivial
      · have b1 := qbOk (qProd_b ts hn he (i + 1)) h38
        try simp only
        exact qSumL_b he f _ j (two_b (by omega) ha b1)
theorem qSum_b {ex : Nat → QR Ex} (he : ∀ j, QB (ExB n) (ex j)) (i : Nat) : QB (ExB n) (qSum ts ex i) := by
  unfold qSum
  rcases h39 : qProd ts ex i with e | ⟨a, j⟩
  · trivial
  · have b1 := qbOk (qProd_b ts hn he i) h39
    try simp only
    exact qSumL_b ts hn he _ _ j b1
theorem qConsF_b {ex : Nat → QR Ex} (he : ∀ j, QB (ExB n) (ex j)) : ∀ (f : Nat) (i : Nat), QB (ExB n) (qConsF ts ex f i)
  | 0, i => trivial
  | f + 1, i => by
    unfold qConsF
    rcases h40 : qSum ts ex i with e | ⟨a, j⟩
    · trivial
    · have b1 := qbOk (qSum_b ts hn he i) h40
      try simp only
      rcases h41 : at? ts j 5 [58, 58] with _ | _
      · simp only [Bool.false_eq_true, if_false]
        first | trivial | assumption | exact ex0 (by omega) | exact two_b (by omega) (by assumption) (by assumption) | exact ex1 (by omega) (by first | assumption | exact noTy_sz (by omega)) (by assumption) | exact ex2 (by omega) (by first | assumption | exact noTy_sz (by omega)) (by first | assumption | exact noTy_sz (by omega)) (by assumption) (by assumption) | exact pa0 (by omega) | exact pa2 (by omega) (by assumption) (by assumption)
      · simp only [if_true]
        rcases h42 : qConsF ts ex f (j + 1) with e | ⟨b, k⟩
        · trivial
        · have b2 := qbOk (qConsF_b he f (j + 1)) h42
          try simp only
          first | trivial | assumption | exact ex0 (by omega) | exact two_b (by omega) (by assumption) (by assumption) | exact ex1 (by omega) (by first | assumption | exact noTy_sz (by omega)) (by assumption) | exact ex2 (by omega) (by first | assumption | exact noTy_sz (by omega)) (by first | assumption | exact noTy_sz (by omega)) (by assumption) (by assumption) | exact pa0 (by omega) | exact pa2 (by omega) (by assumption) (by assumption)
theorem qCmp_b {ex : Nat → QR Ex} (he : ∀ j, QB (ExB n) (ex j)) (i : Nat) : QB (ExB n) (qCmp ts ex i) := by
  unfold qCmp qCons
  rcases h43 : qConsF ts ex (ts.length + 1) i with e | ⟨a, j⟩
  · trivial
  · have b1 := qbOk (qConsF_b ts hn he (ts.length + 1) i) h43
    try simp only
    rcases h44 : at? ts j 5 [60] with _ | _
    · simp only [Bool.false_eq_true, if_false]
      rcases h45 : at? ts j 5 [61] with _ | _
      · simp only [Bool.false_eq_true, if_false]
        rcases h46 : at? ts j 5 [61, 61] with _ | _
        · simp only [Bool.false_eq_true, if_false]
          first | trivial | assumption | exact ex0 (by omega) | exact two_b (by omega) (by assumption) (by assumption) | exact ex1 (by omega) (by first | assumption | exact noTy_sz (by omega)) (by assumption) | exact ex2 (by omega) (by first | assumption | exact noTy_sz (by omega)) (by first | assumption | exact noTy_sz (by omega)) (by assumption) (by assumption) | exact pa0 (by omega) | exact pa2 (by omega) (by assumption) (by assumption)
        · simp only [if_true]
          rcases h47 : qConsF ts ex (ts.length + 1) (j + 1) with e | ⟨b, k⟩
          · trivial
          · have b2 := qbOk (qConsF_b ts hn he (ts.length + 1) (j + 1)) h47
            try simp only
            first | trivial | assumption | exact ex0 (by omega) | exact two_b (by omega) (by assumption) (by assumption) | exact ex1 (by omega) (by first | assumption | exact noTy_sz (by omega)) (by assumption) | exact ex2 (by omega) (by first | assumption | exact noTy_sz (by omega)) (by first | assumption | exact noTy_sz (by omega)) (by assumption) (by assumption) | exact pa0 (by omega) | exact pa2 (by omega) (by assumption) (by assumption)
      · simp only [if_true]
        rcases h48 : qConsF ts ex (ts.length + 1) (j + 1) with e | ⟨b, k⟩
        · trivial
        · have b2 := qbOk (qConsF_b ts hn he (ts.length + 1) (j + 1)) h48
          try simp only
          first | trivial | assumption | exact ex0 (by omega) | exact two_b (by omega) (by assumption) (by assumption) | exact ex1 (by omega) (by first | assumption | exact noTy_sz (by omega)) (by assumption) | exact ex2 (by omega) (by first | assumption | exact noTy_sz (by omega)) (by first | assumption | exact noTy_sz (by omega)) (by assumption) (by assumption) | exact pa0 (by omega) | exact pa2 (by omega) (by assumption) (by assumption)
    · simp only [if_true]
      rcases h49 : qConsF ts ex (ts.length + 1) (j + 1) with e | ⟨b, k⟩
      · trivial
      · have b2 := qbOk (qConsF_b ts hn he (ts.length + 1) (j + 1)) h49
        try simp only
        first | trivial | assumption | exact ex0 (by omega) | exact two_b (by omega) (by assumption) (by assumption) | exact ex1 (by omega) (by first | assumption | exact noTy_sz (by omega)) (by assumption) | exact ex2 (by omega) (by first | assumption | exact noTy_sz (by omega)) (by first | assumption | exact noTy_sz (by omega)) (by assumption) (by assumption) | exact pa0 (by omega) | exact pa2 (by omega) (by assumption) (by assumption)
theorem qBody_b {ex : Nat → QR Ex} (he : ∀ j, QB (ExB n) (ex j)) (i : Nat) : QB (fun p => ExB n p.1 ∧ ExB n p.2) (qBody ts ex i) := by
  unfold qBody
  rcases h50 : at? ts i 5 [61] with _ | _
  · simp only [Bool.false_eq_true, if_false]
    first | trivial | assumption | exact ex0 (by omega) | exact two_b (by omega) (by assumption) (by assumption) | exact ex1 (by omega) (by first | assumption | exact noTy_sz (by omega)) (by assumption) | exact ex2 (by omega) (by first | assumption | exact noTy_sz (by omega)) (by first | assumption | exact noTy_sz (by omega)) (by assumption) (by assumption) | exact pa0 (by omega) | exact pa2 (by omega) (by assumption) (by assumption)
  · simp only [if_true]
    rcases h51 : ex (i + 1) with e | ⟨a, j⟩
    · trivial
    · have b1 := qbOk (he (i + 1)) h51
      try simp only
      rcases h52 : at? ts j 2 [105, 110] with _ | _
      · simp only [Bool.false_eq_true, if_false]
        first | trivial | assumption | exact ex0 (by omega) | exact two_b (by omega) (by assumption) (by assumption) | exact ex1 (by omega) (by first | assumption | exact noTy_sz (by omega)) (by assumption) | exact ex2 (by omega) (by first | assumption | exact noTy_sz (by omega)) (by first | assumption | exact noTy_sz (by omega)) (by assumption) (by assumption) | exact pa0 (by omega) | exact pa2 (by omega) (by assumption) (by assumption)
      · simp only [if_true]
        rcases h53 : ex (j + 1) with e | ⟨b, k⟩
        · trivial
        · have b2 := qbOk (he (j + 1)) h53
          try simp only
          exact ⟨b1, b2⟩
theorem qLet_b {ex : Nat → QR Ex} (he : ∀ j, QB (ExB n) (ex j)) (fr : Int) (i : Nat) : QB (ExB n) (qLet ts ex fr i) := by
  unfold qLet
  rcases h54 : qName ts i with e | ⟨s, j⟩
  · trivial
  · have _ := qbOk ((by rcases qName ts i with _ | ⟨_, _⟩ <;> trivial : QB (fun _ => True) _)) h54
    try simp only
    rcases h55 : qMaybe ts j with e | ⟨t, k⟩
    · trivial
    · have b1 := qbOk (qMaybe_b ts hn j) h55
      try simp only
      rcases h56 : qBody ts ex k with e | ⟨⟨a, b⟩, m⟩
      · trivial
      · obtain ⟨b8, b9⟩ := qbOk (qBody_b ts hn he k) h56
        try simp only
        first | trivial | assumption | exact ex0 (by omega) | exact two_b (by omega) (by assumption) (by assumption) | exact ex1 (by omega) (by first | assumption | exact noTy_sz (by omega)) (by assumption) | exact ex2 (by omega) (by first | assumption | exact noTy_sz (by omega)) (by first | assumption | exact noTy_sz (by omega)) (by assumption) (by assumption) | exact pa0 (by omega) | exact pa2 (by omega) (by assumption) (by assumption)
theorem qRec_b {ex : Nat → QR Ex} (he : ∀ j, QB (ExB n) (ex j)) (fr : Int) (i : Nat) : QB (ExB n) (qRec ts ex fr i) := by
  unfold qRec
  rcases h57 : qName ts i with e | ⟨s, j⟩
  · trivial
  · have _ := qbOk ((by rcases qName ts i with _ | ⟨_, _⟩ <;> trivial : QB (fun _ => True) _)) h57
    try simp only
    rcases h58 : qParam ts j with e | ⟨⟨g, t⟩, k⟩
    · trivial
    · have b1 := qbOk (qParam_b ts hn j) h58
      try simp only
      rcases h59 : qMaybe ts k with e | ⟨u, l⟩
      · trivial
      · have b2 := qbOk (qMaybe_b ts hn k) h59
        try simp only
        rcases h60 : qBody ts ex l with e | ⟨⟨a, b⟩, m⟩
        · trivial
        · obtain ⟨b8, b9⟩ := qbOk (qBody_b ts hn he l) h60
          try simp only
          exact ex2 (by omega) b1 b2 b8 b9
theorem qLetR_b {ex : Nat → QR Ex} (he : ∀ j, QB (ExB n) (ex j)) (fr : Int) (i : Nat) : QB (ExB n) (qLetR ts ex fr i) := by
  unfold qLetR
  rcases h61 : at? ts i 2 [114, 101, 99] with _ | _
  · simp only [Bool.false_eq_true, if_false]
    exact qLet_b ts hn he fr _
  · simp only [if_true]
    exact qRec_b ts hn he fr _
theorem qFun_b {ex : Nat → QR Ex} (he : ∀ j, QB (ExB n) (ex j)) (fr : Int) (i : Nat) : QB (ExB n) (qFun ts ex fr i) := by
  unfold qFun
  rcases h62 : qParam ts i with e | ⟨⟨s, t⟩, j⟩
  · trivial
  · have b1 := qbOk (qParam_b ts hn i) h62
    try simp only
    rcases h63 : at? ts j 5 [45, 62] with _ | _
    · simp only [Bool.false_eq_true, if_false]
      first | trivial | assumption | exact ex0 (by omega) | exact two_b (by omega) (by assumption) (by assumption) | exact ex1 (by omega) (by first | assumption | exact noTy_sz (by omega)) (by assumption) | exact ex2 (by omega) (by first | assumption | exact noTy_sz (by omega)) (by first | assumption | exact noTy_sz (by omega)) (by assumption) (by assumption) | exact pa0 (by omega) | exact pa2 (by omega) (by assumption) (by assumption)
    · simp only [if_true]
      rcases h64 : ex (j + 1) with e | ⟨b, k⟩
      · trivial
      · have b2 := qbOk (he (j + 1)) h64
        try simp only
        exact ex1 (by omega) b1 b2
theorem qIfS_b {ex : Nat → QR Ex} (he : ∀ j, QB (ExB n) (ex j)) (fr : Int) : ∀ (ws : List (List UInt8)) (es : List Ex) (i : Nat), es.length + ws.length ≤ 3 → (∀ e, e ∈ es → ExB n e) → QB (ExB n) (qIfS ts ex fr ws es i)
  | [], es, i, hl, hes => .mk (noTy_sz (by omega)) (noTy_sz (by omega)) (Nat.zero_le _) (by simp at hl; omega) none_mem hes
  | w :: ws, es, i, hl, hes => by
    unfold qIfS
    rcases h1 : ex i with e | ⟨a, j⟩
    · trivial
    · have b1 := qbOk (he i) h1
      have hl2 : (es ++ [a]).length + ws.length ≤ 3 := by simp at hl ⊢; omega
      simp only
      repeat' split
      · exact qIfS_b he fr ws _ j hl2 (memS hes b1)
      · exact qIfS_b he fr ws _ (j + 1) hl2 (memS hes b1)
      · trivial
theorem qEnd_b (fr : Int) (ps : List Pa) (es : List Ex) (i : Nat) (h1 : ps.length ≤ n) (h2 : es.length ≤ n) (h3 : ∀ p, p ∈ ps → PaB n p) (h4 : ∀ e, e ∈ es → ExB n e) : QB (ExB n) (qEnd ts fr ps es i) := by
  unfold qEnd
  split
  · exact .mk (noTy_sz (by omega)) (noTy_sz (by omega)) h1 h2 h3 h4
  · trivial
theorem qArms_b {ex : Nat → QR Ex} (he : ∀ j, QB (ExB n) (ex j)) (fr : Int) : ∀ (f : Nat) (ps : List Pa) (es : List Ex) (i : Nat), ps.length + f ≤ ts.length + 1 → es.length + f ≤ ts.length + 2 → (∀ p, p ∈ ps → PaB n p) → (∀ e, e ∈ es → ExB n e) → QB (ExB n) (qArms ts ex fr f ps es i)
  | 0, _, _, i, _, _, _, _ => trivial
  | f + 1, ps, es, i, l1, l2, h3, h4 => by
    unfold qArms
    rcases g1 : qPatF ts (ts.length + 1) [] i with e | ⟨⟨p, s⟩, j⟩
    · trivial
    · have b1 := qbOk (qPatF_b ts hn (ts.length + 1) [] i) g1
      simp only
      rcases g2 : at? ts j 5 [45, 62] with _ | _
      · trivial
      · simp only [if_true]
        rcases g3 : ex (j + 1) with e | ⟨a, k⟩
        · trivial
        · have b2 := qbOk (he (j + 1)) g3
          simp only
          rcases g4 : at? ts k 5 [124] with _ | _
          · simp only [Bool.false_eq_true, if_false]
            exact qEnd_b ts hn fr _ _ k (by simp; omega) (by simp; omega) (memS h3 b1) (memS h4 b2)
          · simp only [if_true]
            exact qArms_b he fr f _ _ (k + 1) (by simp; omega) (by simp; omega) (memS h3 b1) (memS h4 b2)
theorem qMatch_b {ex : Nat → QR Ex} (he : ∀ j, QB (ExB n) (ex j)) (fr : Int) (i : Nat) : QB (ExB n) (qMatch ts ex fr i) := by
  unfold qMatch
  rcases g1 : ex i with e | ⟨x, j⟩
  · trivial
  · have b1 := qbOk (he i) g1
    simp only
    rcases g2 : at? ts j 2 [119, 105, 116, 104] with _ | _
    · trivial
    · simp only [if_true]
      exact qArms_b ts hn he fr _ _ _ (j + 1) (by simp) (by simp; omega) none_mem (mem1 b1)
theorem qExprF_b : ∀ (f : Nat) (i : Nat), QB (ExB n) (qExprF ts f i)
  | 0, i => trivial
  | f + 1, i => by
    have he := qExprF_b f
    unfold qExprF
    repeat' split
    · exact qLetR_b ts hn he _ _
    · exact qFun_b ts hn he _ _
    · exact qIfS_b ts hn he _ _ _ _ (by simp) none_mem
    · exact qMatch_b ts hn he _ _
    · exact qCmp_b ts hn he _
end

end Go.Proofs.Ytlagglkpbnbmeaa
