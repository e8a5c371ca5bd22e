/- Coercions and values as trees: what an argument of the type api.Coer, api.Val holds; models of what is right, told, the same, heavy. -/
import Derived.Test.YtccdnmjijakofaaGreatDoorNt1
namespace Go.Proofs.YtccdnmjijakofaaGreatDoor
open Go Go.RowKit
set_option linter.unusedVariables false

inductive Co where
  | mk (k h l : Int) (g : Bool) (kids : List Co)
inductive Va where
  | mk (k n : Int) (s : List UInt8) (c : Co) (kids : List Va)
namespace Co
def kind : Co → Int | mk x _ _ _ _ => x
def head : Co → Int | mk _ x _ _ _ => x
def lab : Co → Int | mk _ _ x _ _ => x
def neg : Co → Bool | mk _ _ _ x _ => x
def kids : Co → List Co | mk _ _ _ _ x => x
end Co
namespace Va
def kind : Va → Int | mk x _ _ _ _ => x
def num : Va → Int | mk _ x _ _ _ => x
def str : Va → List UInt8 | mk _ _ x _ _ => x
def coe : Va → Co | mk _ _ _ x _ => x
def kids : Va → List Va | mk _ _ _ _ x => x
end Va
mutual
def Co.size : Co → Nat | .mk _ _ _ _ ks => 1 + Co.sizes ks
def Co.sizes : List Co → Nat
  | [] => 0
  | c :: r => c.size + Co.sizes r
end
mutual
def Va.size : Va → Nat | .mk _ _ _ _ ks => 1 + Va.sizes ks
def Va.sizes : List Va → Nat
  | [] => 0
  | c :: r => c.size + Va.sizes r
end
theorem Co.size_eq (c : Co) : c.size = 1 + Co.sizes c.kids := by cases c; rw [Co.size]; rfl
theorem Va.size_eq (c : Va) : c.size = 1 + Va.sizes c.kids := by cases c; rw [Va.size]; rfl
theorem Co.size_pos (c : Co) : 0 < c.size := by rw [c.size_eq]; omega
theorem Va.size_pos (c : Va) : 0 < c.size := by rw [c.size_eq]; omega
theorem Co.sizes_get : ∀ {l : List Co} {i : Nat} {x : Co}, l[i]? = some x → x.size ≤ Co.sizes l
  | [], i, x, h => by simp at h
  | a :: r, 0, x, h => by simp at h; subst h; rw [Co.sizes]; omega
  | a :: r, i + 1, x, h => by have := Co.sizes_get (l := r) (i := i) (by simpa using h); rw [Co.sizes]; omega
theorem Va.sizes_get : ∀ {l : List Va} {i : Nat} {x : Va}, l[i]? = some x → x.size ≤ Va.sizes l
  | [], i, x, h => by simp at h
  | a :: r, 0, x, h => by simp at h; subst h; rw [Va.sizes]; omega
  | a :: r, i + 1, x, h => by have := Va.sizes_get (l := r) (i := i) (by simpa using h); rw [Va.sizes]; omega
theorem Co.sizes_len : ∀ l : List Co, l.length ≤ Co.sizes l
  | [] => Nat.zero_le _
  | a :: r => by have := Co.sizes_len r; have := a.size_pos; rw [Co.sizes, List.length_cons]; omega
theorem Va.sizes_len : ∀ l : List Va, l.length ≤ Va.sizes l
  | [] => Nat.zero_le _
  | a :: r => by have := Va.sizes_len r; have := a.size_pos; rw [Va.sizes, List.length_cons]; omega
theorem Co.kids_lt (c : Co) : c.kids.length < c.size := by have := Co.sizes_len c.kids; rw [c.size_eq]; omega
theorem Va.kids_lt (c : Va) : c.kids.length < c.size := by have := Va.sizes_len c.kids; rw [c.size_eq]; omega
theorem Co.kid_lt {c x : Co} {i : Nat} (h : c.kids[i]? = some x) : x.size < c.size := by have := Co.sizes_get h; rw [c.size_eq]; omega
theorem Va.kid_lt {c x : Va} {i : Nat} (h : c.kids[i]? = some x) : x.size < c.size := by have := Va.sizes_get h; rw [c.size_eq]; omega

-- the cells
mutual
def coD : Co → List D
  | .mk k h l g ks => [.lit (.int .i64 k), .lit (.int .i64 h), .lit (.int .i64 l), .lit (.bool g), .sl 5 (cosD ks)]
def cosD : List Co → List (List D)
  | [] => []
  | c :: r => coD c :: cosD r
end
mutual
def vaD : Va → List D
  | .mk k n s c ks => [.lit (.int .i64 k), .lit (.int .i64 n), .lit (str s), .lit (.int .i64 c.kind), .lit (.int .i64 c.head), .lit (.int .i64 c.lab), .lit (.bool c.neg), .sl 5 (cosD c.kids), .sl 9 (vasD ks)]
def vasD : List Va → List (List D)
  | [] => []
  | c :: r => vaD c :: vasD r
end
abbrev coX (c : Co) : List D := [.lit (.int .i64 c.kind), .lit (.int .i64 c.head), .lit (.int .i64 c.lab), .lit (.bool c.neg), .sl 5 (cosD c.kids)]
abbrev vaX (v : Va) : List D := [.lit (.int .i64 v.kind), .lit (.int .i64 v.num), .lit (str v.str), .lit (.int .i64 v.coe.kind), .lit (.int .i64 v.coe.head), .lit (.int .i64 v.coe.lab), .lit (.bool v.coe.neg), .sl 5 (cosD v.coe.kids), .sl 9 (vasD v.kids)]
theorem coD_eq (c : Co) : coD c = coX c := by cases c; rw [coD]; rfl
theorem vaD_eq (c : Va) : vaD c = vaX c := by cases c; rw [vaD]; rfl
theorem cosD_map : ∀ l : List Co, cosD l = l.map coX
  | [] => by rw [cosD]; rfl
  | p :: r => by rw [cosD, cosD_map r, coD_eq]; rfl
theorem vasD_map : ∀ l : List Va, vasD l = l.map vaX
  | [] => by rw [vasD]; rfl
  | p :: r => by rw [vasD, vasD_map r, vaD_eq]; rfl
theorem cosD_len (l : List Co) : (cosD l).length = l.length := by rw [cosD_map]; simp
theorem vasD_len (l : List Va) : (vasD l).length = l.length := by rw [vasD_map]; simp
theorem cosD_at {l : List Co} {i : Nat} {x : Co} (h : l[i]? = some x) : (cosD l)[((i : Nat) : Int).toNat]? = some (coX x) := by rw [cosD_map]; simp [h]
theorem vasD_at {l : List Va} {i : Nat} {x : Va} (h : l[i]? = some x) : (vasD l)[((i : Nat) : Int).toNat]? = some (vaX x) := by rw [vasD_map]; simp [h]
abbrev noCo : Co := .mk 0 0 0 false []
abbrev noVa : Va := .mk 0 0 [] noCo []

-- two rows, one beside the other
def all2 {α : Type} (q : α → α → Bool) : List α → List α → Bool
  | [], [] => true
  | a :: r, b :: s => q a b && all2 q r s
  | _, _ => false
theorem all2_len {α : Type} {q : α → α → Bool} : ∀ (l r : List α), all2 q l r = true → l.length = r.length
  | [], [], _ => rfl
  | _ :: l, _ :: r, h => by rw [all2, Bool.and_eq_true] at h; rw [List.length_cons, List.length_cons, all2_len l r h.2]
  | [], _ :: _, h => by cases h
  | _ :: _, [], h => by cases h
theorem all2_ne {α : Type} {q : α → α → Bool} {l r : List α} (h : l.length ≠ r.length) : all2 q l r = false := by
  rcases hb : all2 q l r with _ | _
  · rfl
  · exact absurd (all2_len _ _ hb) h
theorem all2_eq {α : Type} {q : α → α → Bool} : ∀ {l r : List α}, (∀ x, x ∈ l → ∀ y, (q x y = true ↔ x = y)) → (all2 q l r = true ↔ l = r)
  | [], [], _ => by simp [all2]
  | a :: l, b :: r, h => by
    rw [all2, Bool.and_eq_true, h a (by simp) b, all2_eq (l := l) (r := r) (fun x hx y => h x (by simp [hx]) y)]
    simp
  | [], _ :: _, _ => by simp [all2]
  | _ :: _, [], _ => by simp [all2]

-- coercions: models
def cNone (c : Co) : Bool := decide (c.kind = 0) && decide (c.head = 0) && decide (c.lab = 0) && !c.neg && decide (c.kids.length = 0)
def mHead (k : Int) : Bool := decide (k = 1) || decide (k = 2) || decide (k = 3) || decide (k = 4) || decide (k = 7) || decide (k = 8) || decide (k = 9)
def mForm (k : Int) : Int := if k = 2 then 9 else if k = 3 then 7 else if k = 4 then 8 else 0
def mLab (n : Int) : Bool := decide (0 ≤ n) && decide (n ≤ 1048576)
def coK (l : List Co) (i : Nat) : Co := (l[i]?).getD noCo
theorem coK_of {l : List Co} {i : Nat} {x : Co} (h : l[i]? = some x) : coK l i = x := by rw [coK, h]; rfl
/-- within: CId, or a right former of a head; q: is it right -/
def coW (q : Co → Bool) (c : Co) (hd : Int) : Bool := (decide (c.kind = 1) || decide (mForm c.kind = hd)) && q c
/-- a former -/
def coF (q : Co → Bool) (c : Co) : Bool := decide ((c.kids.length : Int) = if c.kind = 4 then 1 else 2) && decide (c.head = 0) && decide (c.lab = 0) && !c.neg && c.kids.all q && !(c.kids.all fun k => decide (k.kind = 1))
def coR : Nat → Co → Bool
  | 0, _ => false
  | m + 1, c =>
    if c.kind = 1 then decide ((c.kids.length : Int) = 0) && decide (c.head = 0) && decide (c.lab = 0) && !c.neg
    else if c.kind = 7 then decide ((c.kids.length : Int) = 0) && decide (c.head = 0) && mLab c.lab
    else if c.kind = 5 then decide ((c.kids.length : Int) = 1) && mHead c.head && decide (c.lab = 0) && !c.neg && coW (coR m) (coK c.kids 0) c.head
    else if c.kind = 6 then decide ((c.kids.length : Int) = 1) && mHead c.head && mLab c.lab && ((decide ((coK c.kids 0).kind = 7) && coR m (coK c.kids 0)) || (decide ((coK c.kids 0).kind = 5) && decide ((coK c.kids 0).head = c.head) && coR m (coK c.kids 0)) || coW (coR m) (coK c.kids 0) c.head)
    else if c.kind = 2 ∨ c.kind = 3 ∨ c.kind = 4 then coF (coR m) c
    else false
def coSame : Nat → Co → Co → Bool
  | 0, _, _ => false
  | m + 1, a, b => decide (a.kind = b.kind) && decide (a.head = b.head) && decide (a.lab = b.lab) && decide (a.neg = b.neg) && all2 (coSame m) a.kids b.kids
theorem Co.ext {a b : Co} (h1 : a.kind = b.kind) (h2 : a.head = b.head) (h3 : a.lab = b.lab) (h4 : a.neg = b.neg) (h5 : a.kids = b.kids) : a = b := by
  cases a; cases b; cases h1; cases h2; cases h3; cases h4; cases h5; rfl
theorem coSame_iff : ∀ (m : Nat) (a b : Co), a.size ≤ m → (coSame m a b = true ↔ a = b)
  | 0, a, _, h => absurd a.size_pos (by omega)
  | m + 1, a, b, h => by
    rw [coSame, Bool.and_eq_true, all2_eq (fun x hx y => coSame_iff m x y (by
      obtain ⟨i, hi⟩ := List.getElem?_of_mem hx
      have := Co.kid_lt hi
      omega))]
    simp only [Bool.and_eq_true, decide_eq_true_eq]
    constructor
    · rintro ⟨⟨⟨⟨h1, h2⟩, h3⟩, h4⟩, h5⟩
      exact Co.ext h1 h2 h3 h4 h5
    · rintro rfl
      simp
-- how many nodes
def coWts (f : Co → Nat → Nat) : List Co → Nat → Nat
  | [], n => n
  | x :: r, n => if n ≤ 400 then coWts f r (f x n) else n
def coWt : Nat → Co → Nat → Nat
  | 0, _, n => n
  | m + 1, c, n => coWts (coWt m) c.kids (n + 1)
theorem coWt_bound : ∀ (m : Nat) (c : Co) (n : Nat), c.size ≤ m → coWt m c n ≤ max (n + 1) 401 ∧ n + 1 ≤ coWt m c n ∧ (coWt m c n ≤ 400 → n + c.size ≤ coWt m c n)
  | 0, c, _, h => absurd c.size_pos (by omega)
  | m + 1, c, n, h => by
    have key : ∀ (l : List Co) (k : Nat), (∀ x ∈ l, x.size ≤ m) → coWts (coWt m) l k ≤ max k 401 ∧ k ≤ coWts (coWt m) l k ∧ (coWts (coWt m) l k ≤ 400 → k + Co.sizes l ≤ coWts (coWt m) l k) := by
      intro l
      induction l with
      | nil => intro k _; rw [coWts, Co.sizes]; omega
      | cons x r ih =>
        intro k hx
        rw [coWts, Co.sizes]
        split
        · have h1 := coWt_bound m x k (hx x (by simp))
          have h2 := ih (coWt m x k) (fun y hy => hx y (by simp [hy]))
          omega
        · omega
    have h1 := key c.kids (n + 1) (fun x hx => by
      obtain ⟨i, hi⟩ := List.getElem?_of_mem hx
      have := Co.kid_lt hi
      omega)
    rw [coWt, c.size_eq]
    omega
def coHeavy (c : Co) : Bool := decide (400 < coWt c.size c 0)
theorem coHeavy_size {c : Co} (h : coHeavy c = false) : c.size ≤ 400 := by
  have := coWt_bound c.size c 0 (Nat.le_refl _)
  have h1 := of_decide_eq_false h
  omega

-- values: models
def vHead (k : Int) : Int := if k = 1 then 1 else if k = 2 then 2 else if k = 3 then 3 else if k = 4 then 4 else if k = 5 then 7 else if k = 6 ∨ k = 7 then 8 else 9
def vaK (l : List Va) (i : Nat) : Va := (l[i]?).getD noVa
theorem vaK_of {l : List Va} {i : Nat} {x : Va} (h : l[i]? = some x) : vaK l i = x := by rw [vaK, h]; rfl
def vSame : Nat → Va → Va → Bool
  | 0, _, _ => false
  | m + 1, a, b => decide (a.kind = b.kind) && decide (a.num = b.num) && decide (a.str = b.str) && coSame a.coe.size a.coe b.coe && all2 (vSame m) a.kids b.kids
theorem Va.ext {a b : Va} (h1 : a.kind = b.kind) (h2 : a.num = b.num) (h3 : a.str = b.str) (h4 : a.coe = b.coe) (h5 : a.kids = b.kids) : a = b := by
  cases a; cases b; cases h1; cases h2; cases h3; cases h4; cases h5; rfl
theorem vSame_iff : ∀ (m : Nat) (a b : Va), a.size ≤ m → (vSame m a b = true ↔ a = b)
  | 0, a, _, h => absurd a.size_pos (by omega)
  | m + 1, a, b, h => by
    rw [vSame, Bool.and_eq_true, all2_eq (fun x hx y => vSame_iff m x y (by
      obtain ⟨i, hi⟩ := List.getElem?_of_mem hx
      have := Va.kid_lt hi
      omega))]
    simp only [Bool.and_eq_true, decide_eq_true_eq, coSame_iff a.coe.size a.coe b.coe (Nat.le_refl _)]
    constructor
    · rintro ⟨⟨⟨⟨h1, h2⟩, h3⟩, h4⟩, h5⟩
      exact Va.ext h1 h2 h3 h4 h5
    · rintro rfl
      simp
def vaWts (f : Va → Nat → Nat) : List Va → Nat → Nat
  | [], n => n
  | x :: r, n => if n ≤ 400 then vaWts f r (f x n) else n
def vaWt : Nat → Va → Nat → Nat
  | 0, _, n => n
  | m + 1, v, n => if 300 < v.str.length then 401 else if coHeavy v.coe then 401 else vaWts (vaWt m) v.kids (n + 1)
/-- a value no part of which is heavy -/
inductive Va.Light : Va → Prop
  | mk (k n : Int) (s : List UInt8) (c : Co) (ks : List Va) : s.length ≤ 300 → c.size ≤ 400 → (∀ x, x ∈ ks → Va.Light x) → Va.Light (.mk k n s c ks)
theorem vaWt_bound : ∀ (m : Nat) (v : Va) (n : Nat), v.size ≤ m → n ≤ 410 → vaWt m v n ≤ max (n + 1) 401 ∧ (vaWt m v n ≤ 400 → n + v.size ≤ vaWt m v n ∧ v.Light)
  | 0, c, _, h, _ => absurd c.size_pos (by omega)
  | m + 1, v, n, h, hn => by
    have key : ∀ (l : List Va) (k : Nat), (∀ x ∈ l, x.size ≤ m) → k ≤ 411 → vaWts (vaWt m) l k ≤ max k 401 ∧ (vaWts (vaWt m) l k ≤ 400 → k + Va.sizes l ≤ vaWts (vaWt m) l k ∧ ∀ x, x ∈ l → Va.Light x) := by
      intro l
      induction l with
      | nil => intro k _ _; rw [vaWts, Va.sizes]; exact ⟨by omega, fun _ => ⟨by omega, by simp⟩⟩
      | cons x r ih =>
        intro k hx hk
        rw [vaWts, Va.sizes]
        split
        · have h1 := vaWt_bound m x k (hx x (by simp)) (by omega)
          have h2 := ih (vaWt m x k) (fun y hy => hx y (by simp [hy])) (by omega)
          refine ⟨by omega, fun h3 => ?_⟩
          have h4 := h2.2 h3
          by_cases h5 : vaWt m x k ≤ 400
          · have h6 := h1.2 h5
            refine ⟨by omega, fun y hy => ?_⟩
            rcases List.mem_cons.1 hy with rfl | hy
            · exact h6.2
            · exact h4.2 y hy
          · omega
        · exact ⟨by omega, fun _ => by omega⟩
    have h1 := key v.kids (n + 1) (fun x hx => by
      obtain ⟨i, hi⟩ := List.getElem?_of_mem hx
      have := Va.kid_lt hi
      omega) (by omega)
    rw [vaWt, v.size_eq]
    split
    · exact ⟨by omega, fun _ => by omega⟩
    · rename_i hs
      split
      · exact ⟨by omega, fun _ => by omega⟩
      · rename_i hc
        refine ⟨by omega, fun h2 => ⟨by have := (h1.2 h2).1; omega, ?_⟩⟩
        have h3 := (h1.2 h2).2
        cases v with
        | mk k n s c ks => exact .mk _ _ _ _ _ (Nat.le_of_not_lt hs) (coHeavy_size (by cases hb : coHeavy c with | false => rfl | true => exact absurd hb hc)) h3
def vHeavy (l : List Va) : Bool := decide (400 < l.foldl (fun n v => vaWt v.size v n) 0)
end Go.Proofs.YtccdnmjijakofaaGreatDoor
