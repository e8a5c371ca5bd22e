/- The texts of layer 27 have no line feeds but at their lines' ends. -/
import Derived.Test.YtccdnmjijakofaaGreatDoorTl4
namespace Go.Proofs.YtccdnmjijakofaaGreatDoor
open Go Go.RowKit
set_option linter.unusedVariables false

def nlc : List UInt8 → Nat
  | [] => 0
  | c :: r => (if c = 10 then 1 else 0) + nlc r
def nn (l : List UInt8) : Bool := l.all fun c => c != 10
theorem nlc_append (a b : List UInt8) : nlc (a ++ b) = nlc a + nlc b := by
  induction a with
  | nil => simp [nlc]
  | cons c r ih => rw [List.cons_append, nlc, nlc, ih]; omega
theorem nlc_zero {l : List UInt8} : nn l = true ↔ nlc l = 0 := by
  induction l with
  | nil => simp [nlc, nn]
  | cons c r ih =>
    unfold nn at ih ⊢
    rw [List.all_cons, Bool.and_eq_true, ih, nlc]
    by_cases h : c = 10
    · rw [if_pos h]; simp [h]
    · rw [if_neg h]; simp [h]
theorem nn_append (a b : List UInt8) : nn (a ++ b) = (nn a && nn b) := by unfold nn; rw [List.all_append]
theorem nn_cons (c : UInt8) (b : List UInt8) : nn (c :: b) = (c != 10 && nn b) := by unfold nn; rw [List.all_cons]
theorem nn_nil : nn [] = true := rfl
theorem mNum_nn (n : Int) : nn (mNum n) = true := by
  have h := mNum_all n
  unfold nn
  rw [List.all_eq_true] at h ⊢
  intro x hx
  have := h x hx
  simp only [bne_iff_ne, ne_eq]
  rintro rfl
  cases this
theorem mKid_nn {t : Ty} (h : nn (mTxt t) = true) : nn (mKid t) = true := by
  rw [mKid_eq]
  split
  · exact h
  · rw [nn_append, nn_append, h]; rfl
theorem mTxt_nn {t : Ty} (h : RightTy t) : nn (mTxt t) = true := by
  induction h with
  | int => rw [mTxt_1]; decide
  | bool => rw [mTxt_2]; decide
  | str => rw [mTxt_3]; decide
  | unit => rw [mTxt_4]; decide
  | dyn => rw [mTxt_5]; decide
  | var n h1 h2 => rw [mTxt_var, nn_cons, mNum_nn]; rfl
  | pair a b ha hb iha ihb => rw [mTxt_pair, nn_append, nn_append, mKid_nn iha, mKid_nn ihb]; rfl
  | list a ha iha => rw [mTxt_list, nn_append, mKid_nn iha]; rfl
  | func a b ha hb iha ihb => rw [mTxt_fun, nn_append, nn_append, mKid_nn iha, mKid_nn ihb]; rfl
theorem esc_nn (c : UInt8) : nn (esc c) = true := by
  have hx : ∀ n, n < 16 → (hexD n != 10) = true := by decide
  unfold esc
  split
  · rename_i hp
    rw [nn_cons, nn_nil, Bool.and_true, bne_iff_ne]
    rintro rfl
    cases hp
  · have hc := c.toNat_lt
    rw [nn_cons, nn_cons, nn_cons, nn_nil, hx _ (by omega), hx _ (by omega)]; rfl
theorem mLong_nn (s : List UInt8) : nn (mLong s) = true := by
  have h : nn (s.flatMap esc) = true := by
    induction s with
    | nil => rfl
    | cons c r ih => rw [List.flatMap_cons, nn_append, esc_nn, ih]; rfl
  unfold mLong
  rw [nn_cons, nn_append, h]; rfl
theorem tx_nn : ∀ (t : Tl) (m : Bool), nn (t.tx m) = true
  | .int n, _ => mNum_nn n
  | .bool b, _ => by cases b <;> rfl
  | .str s, _ => mLong_nn s
  | .unit, _ => rfl
  | .func, _ => rfl
  | .nil, m => by cases m <;> decide
  | .pair a b, _ => by rw [Tl.tx, nn_cons, nn_append, nn_append, nn_append, tx_nn a, tx_nn b]; rfl
  | .cons a b, m => by
    cases m
    · simp only [Tl.tx, Bool.false_eq_true, if_false]; rw [nn_cons, nn_append, nn_append, tx_nn a, tx_nn b]; rfl
    · simp only [Tl.tx, if_true]; rw [nn_append, nn_append, tx_nn a, tx_nn b]; rfl
theorem tlT_nn {v : Va} (hI : v.I) : nn (tlT v) = true := by
  cases hv : vTold v with
  | false => rw [tlT_not hv]; rfl
  | true =>
    obtain ⟨t, hok, rfl⟩ := told_of hI hv
    rw [tlT_va hok]
    exact tx_nn t false
theorem tyT_nn (t : Ty) : nn (tyT t) = true := by
  unfold tyT
  split
  · split
    · rename_i h
      exact mTxt_nn (right_ty _ _ (Nat.le_refl _) h)
    · rfl
  · rfl
theorem spT_nn (a b : Int) : nn (spT a b) = true := by
  unfold spT
  rw [nn_append, nn_append, mNum_nn, mNum_nn]; rfl
theorem kdT_nn (k : Int) : nn (kdT k) = true := by
  unfold kdT
  repeat' split
  all_goals decide
theorem bdT_nn {a b y l r : Int} {nm : List UInt8} (h : nn nm = true) : nn (bdT a b y l r nm) = true := by
  have hp : nn (bdP a b) = true := by unfold bdP; rw [nn_append, nn_append, spT_nn]; rfl
  unfold bdT
  split
  · rw [nn_append, nn_append, nn_append, hp, kdT_nn, kdT_nn]; rfl
  split
  · rw [nn_append, hp]; rfl
  split
  · rw [nn_append, nn_append, hp, h]; rfl
  · rfl
theorem rsB_nn (n : Int) (g : Bool) : nn (rsB n g) = true := by
  unfold rsB
  rw [nn_append, nn_append, mNum_nn]
  split <;> rfl
theorem rsL_nn (x : Lb) : nn (rsL x) = true := by
  unfold rsL
  rw [nn_append, nn_append, nn_append, nn_append, nn_append, spT_nn, tyT_nn, tyT_nn]; rfl
theorem rsT_nn {k n a b : Int} {v : Va} {g : Bool} {l : List Lb} (hI : v.I) : nn (rsT k v n g a b l) = true := by
  unfold rsT
  split
  · rw [nn_append, tlT_nn hI]; rfl
  split
  · split
    · rw [nn_append, rsB_nn, rsL_nn]; rfl
    · exact rsB_nn n g
  split
  · rw [nn_append, spT_nn]; rfl
  split
  · rw [nn_append, spT_nn]; rfl
  split
  · decide
  split
  · decide
  · rfl
/-- how many lines an outcome's text has -/
def wN (k : Int) : Int := if k = 5 then 2 else if 1 ≤ k ∧ k ≤ 4 then 1 else 0
theorem ocT_lines {k a : Int} {bd rs : List UInt8} {t : Ty} (hb : nn bd = true) (hr : nn rs = true) : (nlc (ocT k a bd t rs) : Int) = wN k := by
  have h0 := nlc_zero.1 hb; have h1 := nlc_zero.1 hr; have h2 := nlc_zero.1 (mNum_nn a); have h3 := nlc_zero.1 (tyT_nn t)
  unfold ocT
  by_cases k1 : k = 1
  · subst k1; rw [if_pos rfl, nlc_append, nlc_append, h2]; rfl
  rw [if_neg k1]
  by_cases k2 : k = 2
  · subst k2; rfl
  rw [if_neg k2]
  by_cases k3 : k = 3
  · subst k3; rfl
  rw [if_neg k3]
  by_cases k4 : k = 4
  · subst k4; rw [if_pos rfl, nlc_append, h0]; rfl
  rw [if_neg k4]
  by_cases k5 : k = 5
  · subst k5; rw [if_pos rfl, nlc_append, nlc_append, nlc_append, nlc_append, h1, h3]; rfl
  rw [if_neg k5]
  unfold wN
  rw [if_neg k5, if_neg (by omega)]; rfl
theorem ocT_pos {k a : Int} {bd rs : List UInt8} {t : Ty} : (0 < (ocT k a bd t rs).length) ↔ 0 < wN k := by
  unfold ocT
  by_cases k1 : k = 1
  · subst k1; rw [if_pos rfl]; simp [wN]
  rw [if_neg k1]
  by_cases k2 : k = 2
  · subst k2; simp [wN]
  rw [if_neg k2]
  by_cases k3 : k = 3
  · subst k3; simp [wN]
  rw [if_neg k3]
  by_cases k4 : k = 4
  · subst k4; rw [if_pos rfl]; simp [wN]
  rw [if_neg k4]
  by_cases k5 : k = 5
  · subst k5; rw [if_pos rfl]; simp [wN]
  rw [if_neg k5]
  unfold wN
  rw [if_neg k5, if_neg (by omega)]; simp
theorem nlc_drop {s : List UInt8} {i : Nat} {c : UInt8} (h : s[i]? = some c) : nlc (s.drop i) = (if c = 10 then 1 else 0) + nlc (s.drop (i + 1)) := by rw [drop_get h, nlc]
theorem is10 {c : UInt8} (h : (c.toNat : Int) = 10) : c = 10 := UInt8.toNat_inj.1 (by show c.toNat = 10; omega)
theorem not10 {c : UInt8} (h : ¬ (c.toNat : Int) = 10) : ¬ c = 10 := by rintro rfl; exact h rfl
theorem ocT_len {k a : Int} {bd rs : List UInt8} {t : Ty} (h1 : bd.length ≤ 2000) (h2 : rs.length ≤ 1000000) (h3 : t.size ≤ 600) : (ocT k a bd t rs).length ≤ 9000000 := by
  have q1 := mNum_20 a; have q3 := tyT_len t
  unfold ocT
  repeat' split
  all_goals first | (simp only [List.length_append, List.length_cons, List.length_nil]; omega) | decide
theorem fin_lines {q2 w : Int} {q j : Nat} {s nm : List UInt8} (hJ : (q2 = (q : Int) ∧ nlc nm = nlc (nm.drop j)) ∨ q2 = w) (hj : nm.length ≤ j) (hqs : nlc s = q) (hl : nlc nm = 0 → (nlc s : Int) = w) : q2 = w := by
  rcases hJ with ⟨h1, h2⟩ | h1
  · rw [h1, ← hqs]; exact hl (by rw [h2, List.drop_eq_nil_of_le hj]; rfl)
  · exact h1
theorem step_lines {q2 w : Int} {q j : Nat} {nm : List UInt8} {c : UInt8} (hJ : (q2 = (q : Int) ∧ nlc nm = nlc (nm.drop j)) ∨ q2 = w) (hc : nm[j]? = some c) (h : ¬ (c.toNat : Int) = 10) : (q2 = (q : Int) ∧ nlc nm = nlc (nm.drop (j + 1))) ∨ q2 = w := by
  rcases hJ with ⟨h1, h2⟩ | h1
  · exact .inl ⟨h1, by rw [h2, nlc_drop hc, if_neg (not10 h), Nat.zero_add]⟩
  · exact .inr h1
end Go.Proofs.YtccdnmjijakofaaGreatDoor
