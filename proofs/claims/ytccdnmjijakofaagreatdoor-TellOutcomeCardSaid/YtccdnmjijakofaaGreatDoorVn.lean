/- Values: which are right, which are told: models. -/
import Derived.Test.YtccdnmjijakofaaGreatDoorVt
namespace Go.Proofs.YtccdnmjijakofaaGreatDoor
open Go Go.RowKit
set_option linter.unusedVariables false

def vKd (k : Int) : Int := if k = 5 ∨ k = 7 then 2 else 0
def vKind (k : Int) : Bool := decide (1 ≤ k) && decide (k ≤ 8)
def vLk (k : Int) : Bool := decide (k = 6) || decide (k = 7)
def vN (k n : Int) : Bool := decide (k = 1) || (decide (k = 2) && (decide (n = 0) || decide (n = 1))) || (decide (k = 8) && decide (0 ≤ n))
def vS (k : Int) (s : List UInt8) : Bool := decide (k = 3) && decide ((s.length : Int) ≤ 200)
def vAround (v : Va) : Bool := cNone v.coe || (if v.coe.kind = 5 then decide (v.coe.head = vHead v.kind) && coR v.coe.size v.coe else if v.coe.kind = 3 then decide (v.kind = 5) && coR v.coe.size v.coe else if v.coe.kind = 4 then vLk v.kind && coR v.coe.size v.coe else if v.coe.kind = 2 then decide (v.kind = 8) && coR v.coe.size v.coe else false)
def vOne (v : Va) : Bool := vKind v.kind && (vN v.kind v.num || (decide (v.num = 0) && decide (v.kind ≠ 2) && decide (v.kind ≠ 8))) && (vS v.kind v.str || decide (v.str = [])) && decide ((v.kids.length : Int) = vKd v.kind) && vAround v
def vRest (v : Va) : Bool := vLk v.kind && decide (v.coe.kind ≠ 5)
def vR : Nat → Va → Bool
  | 0, _ => false
  | m + 1, v => vOne v && (!(decide (v.kind = 7)) || vRest (vaK v.kids 1)) && v.kids.all (vR m)
def vB0 (v : Va) : Bool := cNone v.coe && !(decide (v.kind = 8) && decide (v.num ≠ 0))
def vBare : Nat → Va → Bool
  | 0, _ => false
  | m + 1, v => vB0 v && v.kids.all (vBare m)
-- the page's
def ow1 (v : Va) : Bool := vKind v.kind && (!(decide (v.kind = 2)) || (decide (0 ≤ v.num) && decide (v.num ≤ 1))) && (!(decide (v.kind = 8)) || decide (0 ≤ v.num))
def ow2 (v : Va) : Bool := decide ((v.kids.length : Int) = vKd v.kind) && decide ((v.str.length : Int) ≤ 200) && (decide (v.kind = 3) || decide (v.str = []))
def ow3 (v : Va) : Bool := decide (v.num = 0) || decide (v.kind = 1) || decide (v.kind = 2) || decide (v.kind = 8)
def ow4 (v : Va) : Bool := !(decide (v.kind = 7)) || vRest (vaK v.kids 1)
def ow5 (v : Va) : Bool := cNone v.coe || (coR v.coe.size v.coe && (if v.coe.kind = 5 then decide (v.coe.head = vHead v.kind) else decide (mForm v.coe.kind = vHead v.kind) && (decide (v.kind = 5) || vLk v.kind || decide (v.kind = 8))))
def rOwn (v : Va) : Bool := ow1 v && ow2 v && ow3 v && ow4 v && ow5 v
def rR : Nat → Va → Bool
  | 0, _ => false
  | m + 1, v => rOwn v && v.kids.all (rR m)
def vTold (v : Va) : Bool := vR v.size v && vBare v.size v
def rTold (v : Va) : Bool := rR v.size v && vBare v.size v

theorem cNone_eq {c : Co} (h : cNone c = true) : c = noCo := by
  simp only [cNone, Bool.and_eq_true, Bool.not_eq_true'] at h
  obtain ⟨⟨⟨⟨h1, h2⟩, h3⟩, h4⟩, h5⟩ := h
  exact Co.ext (of_decide_eq_true h1) (of_decide_eq_true h2) (of_decide_eq_true h3) h4 (List.eq_nil_of_length_eq_zero (of_decide_eq_true h5))
theorem cNone_no : cNone noCo = true := rfl
/-- the shape of a told value -/
def shC (k n : Int) (s : List UInt8) (c : Co) (len : Nat) (k1 : Int) : Bool := cNone c && (decide (k = 1) || (decide (k = 2) && (decide (n = 0) || decide (n = 1))) || (vKind k && decide (n = 0) && decide (k ≠ 2))) && ((decide (k = 3) && decide ((s.length : Int) ≤ 200)) || decide (s = [])) && decide ((len : Int) = vKd k) && (!(decide (k = 7)) || vLk k1)
def shB (v : Va) : Bool := shC v.kind v.num v.str v.coe v.kids.length (vaK v.kids 1).kind
def toldB : Nat → Va → Bool
  | 0, _ => false
  | m + 1, v => shB v && v.kids.all (toldB m)
theorem all_both {α : Type} {p q r : α → Bool} : ∀ {l : List α}, (∀ x, x ∈ l → (p x && q x) = r x) → (l.all p && l.all q) = l.all r
  | [], _ => rfl
  | a :: l, h => by
    rw [List.all_cons, List.all_cons, List.all_cons, ← h a (by simp), ← all_both (l := l) (fun x hx => h x (by simp [hx]))]
    cases p a <;> cases q a <;> cases l.all p <;> cases l.all q <;> rfl
/-- two ways to the same: the node's test and the kids' -/
theorem both_eq {a b c x y z : Bool} (h1 : (x && y) = z) (h : z = true → (a && b) = c) : (a && x && (b && y)) = (c && z) := by
  subst h1
  cases x <;> cases y <;> simp_all
theorem lk_kids {v : Va} (h : v.kind = 7) (hl : (v.kids.length : Int) = vKd v.kind) : ∃ a r, v.kids = [a, r] := by
  rw [h, show vKd 7 = 2 from rfl] at hl
  match hk : v.kids, hl with
  | [a, r], _ => exact ⟨a, r, rfl⟩
  | [], hl => simp at hl
  | [a], hl => simp at hl
  | a :: b :: c :: r, hl => simp at hl; omega
theorem told_rest {m : Nat} {v : Va} (hz : v.kids.all (toldB m) = true) (hl : (v.kids.length : Int) = vKd v.kind) (h : v.kind = 7) : vRest (vaK v.kids 1) = vLk (vaK v.kids 1).kind := by
  obtain ⟨a, r, hk⟩ := lk_kids h hl
  rw [hk] at hz ⊢
  simp only [List.all_cons, List.all_nil, Bool.and_true, Bool.and_eq_true] at hz
  have hr := hz.2
  cases m with
  | zero => cases hr
  | succ m =>
    rw [toldB, Bool.and_eq_true] at hr
    have hs := hr.1
    simp only [shB, shC, Bool.and_eq_true] at hs
    have := cNone_eq hs.1.1.1.1
    show (vLk r.kind && decide (r.coe.kind ≠ 5)) = vLk r.kind
    rw [this]
    simp [Co.kind]
theorem sh_v {m : Nat} {v : Va} (hz : v.kids.all (toldB m) = true) : (vOne v && (!(decide (v.kind = 7)) || vRest (vaK v.kids 1)) && vB0 v) = shB v := by
  by_cases hc : cNone v.coe = true
  · by_cases hl : (v.kids.length : Int) = vKd v.kind
    · have ht := told_rest hz hl
      by_cases hk : 1 ≤ v.kind ∧ v.kind ≤ 8
      · have : v.kind = 1 ∨ v.kind = 2 ∨ v.kind = 3 ∨ v.kind = 4 ∨ v.kind = 5 ∨ v.kind = 6 ∨ v.kind = 7 ∨ v.kind = 8 := by omega
        rcases this with h | h | h | h | h | h | h | h <;> (try have ht' := ht h) <;> simp_all [vOne, vB0, shB, shC, vAround, vN, vS, vKind, vKd]
        · rw [Bool.eq_iff_iff]; simp; constructor
          · rintro ⟨⟨_, h1⟩, h2⟩; exact ⟨h2, h1⟩
          · rintro ⟨h1, h2⟩; exact ⟨⟨by omega, h2⟩, h1⟩
      · have h1 : vKind v.kind = false := by unfold vKind; rw [Bool.and_eq_false_iff, decide_eq_false_iff_not, decide_eq_false_iff_not]; omega
        have h2 : ¬ v.kind = 1 := by omega
        have h3 : ¬ v.kind = 2 := by omega
        simp [vOne, shB, shC, h1, h2, h3]
    · simp [vOne, shB, shC, hl]
  · simp [vB0, shB, shC, hc]
theorem sh_r {m : Nat} {v : Va} (hz : v.kids.all (toldB m) = true) : (rOwn v && vB0 v) = shB v := by
  by_cases hc : cNone v.coe = true
  · by_cases hl : (v.kids.length : Int) = vKd v.kind
    · have ht := told_rest hz hl
      by_cases hk : 1 ≤ v.kind ∧ v.kind ≤ 8
      · have : v.kind = 1 ∨ v.kind = 2 ∨ v.kind = 3 ∨ v.kind = 4 ∨ v.kind = 5 ∨ v.kind = 6 ∨ v.kind = 7 ∨ v.kind = 8 := by omega
        rcases this with h | h | h | h | h | h | h | h <;> (try have ht' := ht h) <;> by_cases hs : v.str = [] <;> simp_all [rOwn, ow1, ow2, ow3, ow4, ow5, vB0, shB, shC, vKind, vKd] <;> (try (rw [Bool.eq_iff_iff]; simp; omega)) <;> (try (rw [Bool.and_comm]))
      · have h1 : vKind v.kind = false := by unfold vKind; rw [Bool.and_eq_false_iff, decide_eq_false_iff_not, decide_eq_false_iff_not]; omega
        have h2 : ¬ v.kind = 1 := by omega
        have h3 : ¬ v.kind = 2 := by omega
        simp [rOwn, ow1, shB, shC, h1, h2, h3]
    · simp [rOwn, ow2, shB, shC, hl]
  · simp [vB0, shB, shC, hc]
theorem vR_told : ∀ (m : Nat) (v : Va), (vR m v && vBare m v) = toldB m v
  | 0, _ => rfl
  | m + 1, v => by
    rw [vR, vBare, toldB]
    exact both_eq (all_both fun x _ => vR_told m x) (fun hz => sh_v hz)
theorem rR_told : ∀ (m : Nat) (v : Va), (rR m v && vBare m v) = toldB m v
  | 0, _ => rfl
  | m + 1, v => by
    rw [rR, vBare, toldB]
    exact both_eq (all_both fun x _ => rR_told m x) (fun hz => sh_r hz)
theorem rTold_eq (v : Va) : rTold v = vTold v := by unfold rTold vTold; rw [vR_told, rR_told]
/-- numbers as they may be -/
inductive Va.I : Va → Prop
  | mk (k n : Int) (s : List UInt8) (c : Co) (ks : List Va) : I64 n → (∀ x, x ∈ ks → Va.I x) → Va.I (.mk k n s c ks)
theorem toldB_of : ∀ (m : Nat) (v : Va), v.I → toldB m v = true → ∃ t : Tl, t.ok ∧ v = t.va
  | 0, _, _, h => by cases h
  | m + 1, .mk k n s c ks, .mk _ _ _ _ _ hn hI, h => by
    rw [toldB, Bool.and_eq_true] at h
    obtain ⟨hs, hz⟩ := h
    replace hs : shC k n s c ks.length (vaK ks 1).kind = true := hs
    simp only [shC, Bool.and_eq_true] at hs
    obtain ⟨⟨⟨⟨h1, h2⟩, h3⟩, h4⟩, h5⟩ := hs
    have hc := cNone_eq h1
    subst hc
    replace hz : ks.all (toldB m) = true := hz
    replace h5 : (!(decide (k = 7)) || vLk (vaK ks 1).kind) = true := h5
    have hkid : ∀ x, x ∈ ks → ∃ t : Tl, t.ok ∧ x = t.va := fun x hx => toldB_of m x (hI x hx) (List.all_eq_true.1 hz x hx)
    have h4' : (ks.length : Int) = vKd k := of_decide_eq_true h4
    clear h4
    have no : vKd k = 0 → ks = [] := fun e => List.eq_nil_of_length_eq_zero (by omega)
    have two : vKd k = 2 → ∃ a b, ks = [a, b] := fun e => by
      rw [e] at h4'
      match ks, h4' with
      | [a, b], _ => exact ⟨a, b, rfl⟩
      | [], h => simp at h
      | [a], h => simp at h
      | a :: b :: c :: r, h => simp at h; omega
    have hk : 1 ≤ k ∧ k ≤ 8 := by
      simp only [vKind, Bool.or_eq_true, Bool.and_eq_true, decide_eq_true_eq] at h2
      omega
    have hstr : k ≠ 3 → s = [] := fun e => by
      simp only [Bool.or_eq_true, Bool.and_eq_true, decide_eq_true_eq] at h3
      rcases h3 with h3 | h3
      · exact absurd h3.1 e
      · exact h3
    have hnum : k ≠ 1 → k ≠ 2 → n = 0 := fun e1 e2 => by
      simp only [vKind, Bool.or_eq_true, Bool.and_eq_true, decide_eq_true_eq] at h2
      omega
    have : k = 1 ∨ k = 2 ∨ k = 3 ∨ k = 4 ∨ k = 5 ∨ k = 6 ∨ k = 7 ∨ k = 8 := by omega
    rcases this with rfl | rfl | rfl | rfl | rfl | rfl | rfl | rfl
    · exact ⟨.int n, hn, by rw [no rfl, hstr (by decide)]; rfl⟩
    · have hb : n = 0 ∨ n = 1 := by
        simp only [vKind, Bool.or_eq_true, Bool.and_eq_true, decide_eq_true_eq] at h2
        omega
      rcases hb with rfl | rfl
      · exact ⟨.bool false, trivial, by rw [no rfl, hstr (by decide)]; rfl⟩
      · exact ⟨.bool true, trivial, by rw [no rfl, hstr (by decide)]; rfl⟩
    · have hs : s.length ≤ 200 := by
        simp only [Bool.or_eq_true, Bool.and_eq_true, decide_eq_true_eq] at h3
        rcases h3 with h3 | h3
        · have := h3.2; omega
        · rw [h3]; exact Nat.zero_le _
      exact ⟨.str s, hs, by rw [no rfl, hnum (by decide) (by decide)]; rfl⟩
    · exact ⟨.unit, trivial, by rw [no rfl, hstr (by decide), hnum (by decide) (by decide)]; rfl⟩
    · obtain ⟨a, b, rfl⟩ := two rfl
      obtain ⟨t, ht, rfl⟩ := hkid a (by simp)
      obtain ⟨u, hu, rfl⟩ := hkid b (by simp)
      exact ⟨.pair t u, ⟨ht, hu⟩, by rw [hstr (by decide), hnum (by decide) (by decide)]; rfl⟩
    · exact ⟨.nil, trivial, by rw [no rfl, hstr (by decide), hnum (by decide) (by decide)]; rfl⟩
    · obtain ⟨a, b, rfl⟩ := two rfl
      obtain ⟨t, ht, rfl⟩ := hkid a (by simp)
      obtain ⟨u, hu, rfl⟩ := hkid b (by simp)
      refine ⟨.cons t u, ⟨ht, hu, ?_⟩, by rw [hstr (by decide), hnum (by decide) (by decide)]; rfl⟩
      have h6 : vLk u.va.kind = true := h5
      cases u <;> first | rfl | (cases h6; done) | (rename_i z; cases h6)
    · exact ⟨.func, trivial, by rw [no rfl, hstr (by decide), hnum (by decide) (by decide)]; rfl⟩
theorem toldB_va : ∀ (t : Tl) (m : Nat), t.ok → t.va.size ≤ m → toldB m t.va = true
  | t, 0, _, h => absurd t.va.size_pos (by omega)
  | .int n, m + 1, _, _ => by rw [toldB]; rfl
  | .bool b, m + 1, _, _ => by rw [toldB]; cases b <;> rfl
  | .str s, m + 1, h, _ => by
    have h' : s.length ≤ 200 := h
    rw [toldB]
    have h3 : shC 3 0 s noCo 0 0 = true := by
      have : (s.length : Int) ≤ 200 := by omega
      simp [shC, cNone_no, vKind, vKd, this]
    show (shC 3 0 s noCo 0 0 && true) = true
    rw [h3]; rfl
  | .unit, m + 1, _, _ => by rw [toldB]; rfl
  | .func, m + 1, _, _ => by rw [toldB]; rfl
  | .nil, m + 1, _, _ => by rw [toldB]; rfl
  | .pair a b, m + 1, h, hs => by
    simp only [Tl.va, Va.size, Va.sizes] at hs
    have h1 := toldB_va a m h.1 (by omega)
    have h2 := toldB_va b m h.2 (by omega)
    rw [toldB]
    simp [Tl.va, Va.kids, h1, h2]
    rfl
  | .cons a b, m + 1, h, hs => by
    simp only [Tl.va, Va.size, Va.sizes] at hs
    have h1 := toldB_va a m h.1 (by omega)
    have h2 := toldB_va b m h.2.1 (by omega)
    rw [toldB]
    have h3 : vLk b.va.kind = true := by
      have := h.2.2
      cases b <;> first | rfl | cases this
    have h4 : shB (Tl.cons a b).va = true := by
      show (true && vLk b.va.kind) = true
      rw [h3]; rfl
    rw [h4]
    simp [Tl.va, Va.kids, h1, h2]
theorem told_of {v : Va} (hI : v.I) (h : vTold v = true) : ∃ t : Tl, t.ok ∧ v = t.va := by
  unfold vTold at h; rw [vR_told] at h; exact toldB_of _ _ hI h
theorem told_va {t : Tl} (h : t.ok) : vTold t.va = true := by unfold vTold; rw [vR_told]; exact toldB_va t _ h (Nat.le_refl _)
end Go.Proofs.YtccdnmjijakofaaGreatDoor
