/- Told values: what the laws of layer 27 say of their texts, in plain terms. -/
import Derived.Test.YtccdnmjijakofaaGreatDoorTw
namespace Go.Proofs.YtccdnmjijakofaaGreatDoor
open Go Go.RowKit
set_option linter.unusedVariables false

section
variable {P : Program}
/-- a contract for an empty row, second of the arguments, holds of nil -/
theorem con_nilSl1 {f : FuncId} {sz : Nat} {a : F} {fs : List F} {vs vs' : List (Nat × F)} {r : F} (h : Con P f (a :: .c (.sl sz []) :: fs) vs r vs') : Con P f (a :: .c (.lit (.slice none 0 0)) :: fs) vs r vs' := by
  intro V ρ tv w args B hsz htv hrr htt hBv hBw
  have hv : tv 1 = .slice none 0 0 := lit_val (ρ := ρ) (hrr.rel 1 _ rfl)
  have hne : ∀ k, k ≠ 1 → find (ini (a :: .c (.sl sz []) :: fs) vs) k = find (ini (a :: .c (.lit (.slice none 0 0)) :: fs) vs) k := by
    intro k hk
    unfold ini
    simp only [nums, List.cons_append, find_cons]
    by_cases h0 : 0 = k
    · rw [if_pos h0, if_pos h0]
    · rw [if_neg h0, if_neg h0, if_neg (show ¬ 0 + 1 = k by omega), if_neg (show ¬ 0 + 1 = k by omega)]
  have h1 : find (ini (a :: .c (.sl sz []) :: fs) vs) 1 = some (.c (.sl sz [])) := rfl
  have h2 : find (ini (a :: .c (.lit (.slice none 0 0)) :: fs) vs) 1 = some (.c (.lit (.slice none 0 0))) := rfl
  have hvol : vol (find (ini (a :: .c (.sl sz []) :: fs) vs)) ρ tv = vol (find (ini (a :: .c (.lit (.slice none 0 0)) :: fs) vs)) ρ tv := by
    funext p
    apply propext
    constructor
    · rintro ⟨k, f', q1, q2, q3⟩
      by_cases hk : k = 1
      · subst hk; rw [h1] at q1; cases q1; cases q2
      · exact ⟨k, f', by rw [← hne k hk]; exact q1, q2, q3⟩
    · rintro ⟨k, f', q1, q2, q3⟩
      by_cases hk : k = 1
      · subst hk; rw [h2] at q1; cases q1; cases q2
      · exact ⟨k, f', by rw [hne k hk]; exact q1, q2, q3⟩
  have hcold : cold V (find (ini (a :: .c (.sl sz []) :: fs) vs)) ρ tv w = cold V (find (ini (a :: .c (.lit (.slice none 0 0)) :: fs) vs)) ρ tv w := by
    funext p
    unfold cold
    rw [hvol]
  have hrr' : RR V ρ tv w (find (ini (a :: .c (.sl sz []) :: fs) vs)) := by
    refine ⟨hrr.vb, fun k f' hk => ?_, fun k f1 k' f2 b q1 q2 q3 q4 => ?_, fun k f1 b q1 q2 => ?_⟩
    · rw [hcold]
      by_cases h0 : k = 1
      · subst h0
        rw [h1] at hk
        cases hk
        refine KV.fv ?_
        show DIn _ _ (.sl sz []) (tv 1)
        rw [hv]
        exact DIn.nil none 0
      · exact hrr.rel k f' (by rw [← hne k h0]; exact hk)
    · have e1 : k ≠ 1 := fun e => by subst e; rw [h1] at q1; cases q1; cases q3
      have e2 : k' ≠ 1 := fun e => by subst e; rw [h1] at q2; cases q2; cases q4
      exact hrr.dist k f1 k' f2 b (by rw [← hne k e1]; exact q1) (by rw [← hne k' e2]; exact q2) q3 q4
    · have e1 : k ≠ 1 := fun e => by subst e; rw [h1] at q1; cases q1; cases q2
      exact hrr.exb k f1 b (by rw [← hne k e1]; exact q1) q2
  have h' := h V ρ tv w args B (by simpa using hsz) htv hrr' htt (fun p hp => hBv p (by rw [← hvol]; exact hp)) hBw
  rw [hvol] at h'
  exact h'
end

theorem tl_light : ∀ {t : Tl}, t.ok → t.va.Light
  | .int n, _ => .mk _ _ _ _ _ (Nat.zero_le _) (by decide) (by simp)
  | .bool b, _ => .mk _ _ _ _ _ (Nat.zero_le _) (by decide) (by simp)
  | .str s, h => .mk _ _ _ _ _ (by have h' : s.length ≤ 200 := h; omega) (by decide) (by simp)
  | .unit, _ => .mk _ _ _ _ _ (Nat.zero_le _) (by decide) (by simp)
  | .func, _ => .mk _ _ _ _ _ (Nat.zero_le _) (by decide) (by simp)
  | .nil, _ => .mk _ _ _ _ _ (Nat.zero_le _) (by decide) (by simp)
  | .pair a b, h => .mk _ _ _ _ _ (Nat.zero_le _) (by decide) (fun x hx => by
    simp only [List.mem_cons, List.not_mem_nil, or_false] at hx
    rcases hx with rfl | rfl
    · exact tl_light h.1
    · exact tl_light h.2)
  | .cons a b, h => .mk _ _ _ _ _ (Nat.zero_le _) (by decide) (fun x hx => by
    simp only [List.mem_cons, List.not_mem_nil, or_false] at hx
    rcases hx with rfl | rfl
    · exact tl_light h.1
    · exact tl_light h.2.1)
theorem tl_I : ∀ {t : Tl}, t.ok → t.va.I
  | .int n, h => .mk _ _ _ _ _ h (by simp)
  | .bool b, _ => .mk _ _ _ _ _ (by cases b <;> exact ⟨by decide, by decide⟩) (by simp)
  | .str s, h => .mk _ _ _ _ _ i64_0 (by simp)
  | .unit, _ => .mk _ _ _ _ _ i64_0 (by simp)
  | .func, _ => .mk _ _ _ _ _ i64_0 (by simp)
  | .nil, _ => .mk _ _ _ _ _ i64_0 (by simp)
  | .pair a b, h => .mk _ _ _ _ _ i64_0 (fun x hx => by
    simp only [List.mem_cons, List.not_mem_nil, or_false] at hx
    rcases hx with rfl | rfl
    · exact tl_I h.1
    · exact tl_I h.2)
  | .cons a b, h => .mk _ _ _ _ _ i64_0 (fun x hx => by
    simp only [List.mem_cons, List.not_mem_nil, or_false] at hx
    rcases hx with rfl | rfl
    · exact tl_I h.1
    · exact tl_I h.2.1)
/-- what is not heavy -/
theorem fold_401 : ∀ (l : List Va) (n : Nat), 401 ≤ n → 401 ≤ l.foldl (fun n v => vaWt v.size v n) n
  | [], n, h => h
  | x :: l, n, h => by
    have := vaWt_ge x.size x n (Nat.le_refl _)
    exact fold_401 l (vaWt x.size x n) (by omega)
theorem fold_light : ∀ (l : List Va) (n : Nat), n ≤ 400 → l.foldl (fun n v => vaWt v.size v n) n ≤ 400 → n + Va.sizes l ≤ 400 ∧ ∀ x, x ∈ l → x.Light
  | [], n, hn, _ => ⟨by rw [Va.sizes]; omega, by simp⟩
  | x :: l, n, hn, h => by
    rw [List.foldl_cons] at h
    have h1 : vaWt x.size x n ≤ 400 := by
      rcases Nat.lt_or_ge 400 (vaWt x.size x n) with h2 | h2
      · have := fold_401 l (vaWt x.size x n) h2
        omega
      · exact h2
    have h2 := (vaWt_bound x.size x n (Nat.le_refl _) (by omega)).2 h1
    have h3 := fold_light l _ h1 h
    refine ⟨by rw [Va.sizes]; omega, fun y hy => ?_⟩
    rcases List.mem_cons.1 hy with rfl | hy
    · exact h2.2
    · exact h3.2 y hy
theorem not_heavy {l : List Va} (h : vHeavy l = false) : Va.sizes l ≤ 400 ∧ ∀ x, x ∈ l → x.Light := by
  have := fold_light l 0 (by omega) (Nat.le_of_not_lt (of_decide_eq_false h))
  rwa [Nat.zero_add] at this
theorem sizes_mem : ∀ {l : List Va} {x : Va}, x ∈ l → x.size ≤ Va.sizes l
  | a :: l, x, h => by
    rw [Va.sizes]
    rcases List.mem_cons.1 h with rfl | h
    · omega
    · have := sizes_mem h; omega
theorem tlT_pos {v : Va} (hI : v.I) (h : vTold v = true) : 0 < (tlT v).length := by
  obtain ⟨t, hok, rfl⟩ := told_of hI h
  rw [tlT_va hok]
  obtain ⟨c, l, e, _⟩ := t.tx_head
  rw [e]
  exact Nat.succ_pos _
theorem tlT_iff {v w : Va} (hv : v.I) (hw : w.I) (h1 : vTold v = true) (h2 : vTold w = true) : (tlT v == tlT w) = vSame v.size v w := by
  obtain ⟨t, ht, rfl⟩ := told_of hv h1
  obtain ⟨u, hu, rfl⟩ := told_of hw h2
  rw [tlT_va ht, tlT_va hu, Bool.eq_iff_iff, vSame_iff _ _ _ (Nat.le_refl _), beq_iff_eq]
  constructor
  · intro h; rw [Tl.text_inj ht hu h]
  · intro h; rw [Tl.va_inj h]
/-- the text of a list's elements, one more ahead of it -/
theorem rt_ne {u : Tl} (a : Tl) (hL : u.isL = true) (h : Tl.rt 0 u ≠ []) : Tl.rt 0 (.cons a u) = a.tx false ++ ([44, 32] ++ Tl.rt 0 u) := by
  rw [Tl.rt_cons, if_pos rfl, List.nil_append]
  rcases Tl.isL_cases hL with rfl | ⟨b, r, rfl⟩
  · exact absurd (Tl.rt_nil 0) h
  · rw [Tl.rt_cons, Tl.rt_cons]; rfl
theorem rt_e {u : Tl} (a : Tl) (hL : u.isL = true) (h : Tl.rt 0 u = []) : Tl.rt 0 (.cons a u) = a.tx false ++ Tl.rt 0 u := by
  rcases Tl.isL_cases hL with rfl | ⟨b, r, rfl⟩
  · rw [Tl.rt_cons, Tl.rt_nil, Tl.rt_nil]; rfl
  · rw [Tl.rt_cons, if_pos rfl, List.nil_append] at h
    obtain ⟨c, l, e, _⟩ := b.tx_head
    rw [e] at h; cases h
theorem rt_len (u : Tl) (hL : u.isL = true) (h : u.ok) : (Tl.rt 0 u).length ≤ 604 * u.va.size := by
  have := u.tx_len false h
  rw [Tl.tx_list hL] at this
  simp only [List.length_cons, List.length_append] at this
  omega
theorem drop_sizes : ∀ (l : List Va) (n : Nat), Va.sizes (l.drop n) ≤ Va.sizes l
  | _, 0 => Nat.le_refl _
  | [], _ + 1 => Nat.le_refl _
  | a :: l, n + 1 => by rw [List.drop_succ_cons, Va.sizes]; have := drop_sizes l n; omega
theorem sizes_drop {l : List Va} {i : Nat} {x : Va} (h : l[i]? = some x) : Va.sizes (l.drop i) = x.size + Va.sizes (l.drop (i + 1)) := by rw [drop_get h, Va.sizes]
end Go.Proofs.YtccdnmjijakofaaGreatDoor
